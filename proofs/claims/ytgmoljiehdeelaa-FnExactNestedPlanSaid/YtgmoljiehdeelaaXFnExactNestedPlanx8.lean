-- Made by wip/xprint.py: the print of the kit, called over a changed copy of what it reads.
-- PRINTED by print.py (a twelfth state) out of the translation. Not trusted: Lean checks it.
import Derived.Test.YtgmoljiehdeelaaXFnExactNestedPlanx0
import Derived.Test.YtgmoljiehdeelaaXFnExactNestedPlanx7
namespace Go.Proofs.Ytgmoljiehdeelaa.PFnExactNestedPlan
open Go.RowKit Go.Proofs.YtgmoljiehdeelaaW.PrintWords Go.Proofs.YtgmoljiehdeelaaW.PrintLast Go.Proofs.YtgmoljiehdeelaaW.PrintMore
open Go.Proofs.YtgmoljiehdeelaaW.PrintWords.Aside0 renaming mk → am_
open Go.Proofs.YtgmoljiehdeelaaW.PrintWords renaming below_drew1 → bd_, below_alloc → ba_, below_set → bs_, below_size → bz_, below_step → bp_, blk_frozen → kf_, blk_alloc → ka_, blk_drewN → kn_, blk_drew → kd_, blk_cell → kc_, blk_below → kb_
open Go.Proofs.YtgmoljiehdeelaaW.PrintWords.Kd renaming R_alloc → ra_, R_drewN → rn_, R_drew → rd_, R_far → rf_, R_mono → rm_, R_types → rt_, R_slice → rs_, C_alloc → ca_, C_drewN → cn_, C_drew → cd_
attribute [local go_sem] max2_int min2_int max_two min_two max_three min_three max_four min_four   -- for this text's walks alone
set_option linter.unusedVariables false
set_option linter.unusedSimpArgs false

/-! ### impl_evenCase: function 40 -/
def impl_evenCase.l0 : Nat → Int → Int → Int → Int → List Int → List Int → List Int → List Int → Option (List Int × List Int × List Int × List Int)
 | 0, _, _, _, _, _, _, _, _ => none
 | k + 1, x1, x2, x15, x16, x241000, x241001, x241002, x241003 => if x16 < x15 then ((some (([x1] : List Int) : List Int)).bind fun y241 => (if x241001.length + y241.length < 17592186044416 then ((some (([x2] : List Int) : List Int)).bind fun y247 => (if x241003.length + y247.length < 17592186044416 then (impl_evenCase.l0 k x1 x2 x15 (wrap64 (x16 + 1)) x241000 (x241001 ++ y241) x241002 (x241003 ++ y247)) else (none))) else (none))) else (some (x241000, x241001, x241002, x241003))
def impl_evenCase.f (k : Nat) (l0 : List Int) (a1 : Int) (a2 : Int) : Option (List Int × List Int × List Int × List Int) := (impl_copied.f l0).bind fun t234 => (if 0 ≤ (l0.length : Int) then (if ((l0.length : Int) : Int).toNat ≤ 35184372088832 then (impl_evenCase.l0 k a1 a2 (l0.length : Int) 0 t234 ([] : List Int) (List.replicate ((l0.length : Int) : Int).toNat 0) ([] : List Int)) else (none)) else (none))
theorem impl_evenCase.mono_l : ∀ k, (∀ y0 y1 y2 y3 y4 y5 y6 y7, LeO (impl_evenCase.l0 k y0 y1 y2 y3 y4 y5 y6 y7) (impl_evenCase.l0 (k + 1) y0 y1 y2 y3 y4 y5 y6 y7))
 | 0 => fun _ _ _ _ _ _ _ _ r h => by simp [impl_evenCase.l0] at h
 | k + 1 => by
  have ih0 := impl_evenCase.mono_l k
  ·
   intro y0 y1 y2 y3 y4 y5 y6 y7
   unfold impl_evenCase.l0
   repeat' first
   | (with_reducible exact ih0 _ _ _ _ _ _ _ _)
   | (with_reducible exact LeO.refl _)
   | (with_reducible exact LeO.none _)
   | (with_reducible refine LeO.ite ?_ ?_)
   | (with_reducible refine LeO.bind ?_ (fun _ => ?_))
   | exact ih0 _ _ _ _ _ _ _ _
   | exact LeO.none _
   | refine LeO.ite ?_ ?_
   | refine LeO.bind ?_ (fun _ => ?_)
theorem impl_evenCase.mono : ∀ a0 a1 a2 k, LeO (impl_evenCase.f k a0 a1 a2) (impl_evenCase.f (k + 1) a0 a1 a2) := by
 intro a0 a1 a2 k
 have ih0 := impl_evenCase.mono_l k
 unfold impl_evenCase.f
 repeat' first
   | (with_reducible exact ih0 _ _ _ _ _ _ _ _)
   | (with_reducible exact LeO.refl _)
   | (with_reducible exact LeO.none _)
   | (with_reducible refine LeO.ite ?_ ?_)
   | (with_reducible refine LeO.bind ?_ (fun _ => ?_))
   | exact ih0 _ _ _ _ _ _ _ _
   | exact LeO.none _
   | refine LeO.ite ?_ ?_
   | refine LeO.bind ?_ (fun _ => ?_)
def impl_evenCase.T1 : Bool × List (List Nat × List Nat) := (true, [([], []), ([0], [0]), ([], []), ([2], [2]), ([3, 3], [3]), ([1, 4], [1, 4]), ([], []), ([6, 5, 1, 0, 1, 2, 3, 4, 5, 6], [5, 6])])
def impl_evenCase.B1 : List Nat := [0, 1, 0, 4, 12, 31, 0, 127]
theorem impl_evenCase.tab1 : rtab .any (opsOf Try.f40 1) = impl_evenCase.T1 := by kernel_rfl
theorem impl_evenCase.bits1 : waitsOk impl_evenCase.T1.2 impl_evenCase.B1 = true := by kernel_rfl
def impl_evenCase.T4 : Bool × List (List Nat × List Nat) := (true, [([], []), ([0], [0]), ([], []), ([2], [2]), ([1, 3], [1, 3]), ([], []), ([5], [5]), ([], []), ([7], [7]), ([6, 8, 4], [6, 8]), ([0, 1, 2, 3, 4, 5, 6], []), ([10, 4, 9, 0, 1, 2, 3, 4, 5, 6], [4, 10]), ([0, 1, 2, 3, 4, 5, 6, 7, 8, 9, 10, 11], []), ([12, 9, 11, 0, 1, 2, 3, 4, 5, 6, 7, 8, 9, 10, 11], [9, 12])])
def impl_evenCase.B4 : List Nat := [0, 1, 0, 4, 15, 0, 32, 0, 128, 511, 127, 2047, 4095, 8191]
theorem impl_evenCase.tab4 : rtab .any (opsOf Try.f40 4) = impl_evenCase.T4 := by kernel_rfl
theorem impl_evenCase.bits4 : waitsOk impl_evenCase.T4.2 impl_evenCase.B4 = true := by kernel_rfl
set_option maxHeartbeats 8000000 in
set_option maxRecDepth 100000 in
theorem impl_evenCase.calls (k : Nat) (A0 : Option Addr) (c0 : Nat) (l0 : List Int) (a1 : Int) (a2 : Int) (r1 : List Int) (r2 : List Int) (r3 : List Int) (r4 : List Int) (w : World) (hr0 : Kd.C (Kd.int .i64) w A0 l0.length l0) (hc0 : l0.length ≤ c0) (h : impl_evenCase.f k l0 a1 a2 = some (r1, r2, r3, r4)) :
  Calls Try.prog 40 #[.slice A0 l0.length c0, .int .i64 a1, .int .i64 a2] w fun e w' => ∃ v0_ v1_ v2_ v3_ : Value, e = .returned (.agg #[v0_, v1_, v2_, v3_]) ∧ Kd.R (Kd.int .i64) 3 w' w.heap.size (fun k_ => some k_ ≠ (v1_ : Value).ownBlock ∧ some k_ ≠ (v2_ : Value).ownBlock ∧ some k_ ≠ (v3_ : Value).ownBlock) v0_ r1 ∧ Kd.R (Kd.int .i64) 3 w' w.heap.size (fun k_ => some k_ ≠ (v0_ : Value).ownBlock ∧ some k_ ≠ (v2_ : Value).ownBlock ∧ some k_ ≠ (v3_ : Value).ownBlock) v1_ r2 ∧ Kd.R (Kd.int .i64) 3 w' w.heap.size (fun k_ => some k_ ≠ (v0_ : Value).ownBlock ∧ some k_ ≠ (v1_ : Value).ownBlock ∧ some k_ ≠ (v3_ : Value).ownBlock) v2_ r3 ∧ Kd.R (Kd.int .i64) 3 w' w.heap.size (fun k_ => some k_ ≠ (v0_ : Value).ownBlock ∧ some k_ ≠ (v1_ : Value).ownBlock ∧ some k_ ≠ (v2_ : Value).ownBlock) v3_ r4 ∧ Below w.heap.size w w' := by
 have hu38 := Try.underlying38
 have HR0 := am_ hr0
 have HC0 := am_ hc0
 clear hr0 hc0
 have HB := am_ (Below.refl w.heap.size w)
 have H : ((impl_copied.f l0).bind fun t234 => (if 0 ≤ (l0.length : Int) then (if ((l0.length : Int) : Int).toNat ≤ 35184372088832 then (impl_evenCase.l0 k a1 a2 (l0.length : Int) 0 t234 ([] : List Int) (List.replicate ((l0.length : Int) : Int).toNat 0) ([] : List Int)) else (none)) else (none))) = some (r1, r2, r3, r4) := h
 clear h
 replace H := Option.bind_eq_some_iff.mp H
 obtain ⟨t234, A40, H⟩ := H
 replace H : (if 0 ≤ (l0.length : Int) then (if ((l0.length : Int) : Int).toNat ≤ 35184372088832 then (impl_evenCase.l0 k a1 a2 (l0.length : Int) 0 t234 ([] : List Int) (List.replicate ((l0.length : Int) : Int).toNat 0) ([] : List Int)) else (none)) else (none)) = some (r1, r2, r3, r4) := H
 have A4 := am_ A40
 clear A40
 by_cases c5 : 0 ≤ (l0.length : Int)
 ·
  rw [if_pos c5] at H
  have c5b0 := eq_true c5
  have c5b1 : decide (0 ≤ (l0.length : Int)) = true := decide_eq_true c5
  clear c5
  by_cases c6 : ((l0.length : Int) : Int).toNat ≤ 35184372088832
  ·
   rw [if_pos c6] at H
   have c6b0 := eq_true c6
   have c6b1 : decide (((l0.length : Int) : Int).toNat ≤ 35184372088832) = true := decide_eq_true c6
   clear c6
   obtain ⟨y237, hy237⟩ : ∃ y_ : List Int, y_ = (List.replicate ((l0.length : Int) : Int).toNat 0) := ⟨_, rfl⟩
   replace H : (impl_evenCase.l0 k a1 a2 (l0.length : Int) 0 t234 ([] : List Int) y237 ([] : List Int)) = some (r1, r2, r3, r4) := by first | (rw [hy237]; with_reducible exact H) | (have H2_ := (Option.bind_some _ _).symm.trans H; rw [hy237]; with_reducible exact H2_) | (have H2_ := (Option.bind_some _ _).symm.trans H; with_reducible exact H2_) | with_reducible exact H | (rw [hy237]; exact H) | exact H
   have Ny237 := am_ hy237
   clear hy237
   have H' := am_ H
   clear H
   go_enter Try.func40, Try.ntmps40
   try go_wp2_with (first | ((with_reducible refine gate_dst (N := 6) rfl ?_); refine box_event ?hg (N := 6) ?hd (cs := #[.slice none 0 0, .slice none 0 0, .slice none 0 0, .slice none 0 0]) (t := 38) ?hr ?_; (case hd => rfl); (case hg => rfl); (case hr => first | (go_simp; done) | (go_simp; rfl)); intro gb233 hg w7 hbox hb; have n0_ := am_ (bp_ (by repeat (first | (with_reducible first | exact HB.out | apply ba_ | apply pw_below_drewN | apply bd_) | exact HB.out)) hb); have n1_ := am_ (hbox); have n2_ := am_ ((by rw [hg]; exact (bz_ (by repeat (first | (with_reducible first | exact HB.out | apply ba_ | apply pw_below_drewN | apply bd_) | exact HB.out))) : w.heap.size ≤ gb233)); have n3_ := am_ ((by rw [hg]; exact (bz_ (by repeat (first | (with_reducible first | exact HB.out | apply ba_ | apply pw_below_drewN | apply bd_) | exact HB.out))) : w.heap.size ≤ gb233)); clear HB; have HB := n0_; have BK233 := n1_; have GW233 := n2_; have GE233 := n3_; clear n0_ n1_ n2_ n3_; clear hb hbox hg))
   have n0_ := am_ (kd_ BK233.out)
   have n1_ := am_ (bd_ HB.out)
   clear BK233
   clear HB
   have BK233 := n0_
   have HB := n1_
   clear n0_ n1_
   refine start_ (n := 8) (S := fun w' => True) (ds := []) #[false, false, false, false, false, false, false, false] (by kernel_rfl) rfl rfl trivial (fun hHeld => ?_); refine with_tabW impl_evenCase.tab1 impl_evenCase.bits1 (fun HT_ HW_ => ?_)
   generalize w7.drew = w8 at BK233 HB hHeld ⊢
   refine pure_ (i := 0) (N := some 8) (v := ?_) (a' := ?_) #[true, false, false, false, false, false, false, false] rfl rfl (any_of HT_.out (by kernel_rfl)) (fun _ _ _ h => h) (Or.inl ⟨by rfl, ?_⟩) ?_ ?_
   rotate_left
   ·
    intro w'
    go_simp
    with_reducible rfl
   rotate_left
   ·
    simp only [Act.put, List.setIfInBounds_toArray, List.set_cons_zero, List.set_cons_succ, i64_w, i32_w]
    rfl
   refine pure_ (i := 2) (N := some 10) (v := ?_) (a' := ?_) #[true, false, true, false, false, false, false, false] rfl rfl (any_of HT_.out (by kernel_rfl)) (fun _ _ _ h => h) (Or.inl ⟨by rfl, ?_⟩) ?_ ?_
   rotate_left
   ·
    intro w'
    go_simp
    with_reducible rfl
   rotate_left
   ·
    simp only [Act.put, List.setIfInBounds_toArray, List.set_cons_zero, List.set_cons_succ, i64_w, i32_w]
    rfl
   refine pure_ (i := 3) (N := some 11) (v := ?_) (a' := ?_) #[true, false, true, true, false, false, false, false] rfl rfl (any_of HT_.out (by kernel_rfl)) (fun _ _ _ h => h) (Or.inl ⟨by rfl, ?_⟩) ?_ ?_
   rotate_left
   ·
    intro w'
    go_simp
    with_reducible rfl
   rotate_left
   ·
    simp only [Act.put, List.setIfInBounds_toArray, List.set_cons_zero, List.set_cons_succ, i64_w, i32_w]
    rfl
   refine join_ (σ := Value × Value × Nat) 1 #[true, true, true, true, true, true, true, false] (fun s_ => [(9, s_.1), (12, s_.2.1), (7, .pointer (some ⟨s_.2.2, 0, none⟩)), (13, .agg #[s_.1, .slice none 0 0, s_.2.1, .slice none 0 0])]) (fun s_ w' => (Kd.R (Kd.int .i64) 3 w' w.heap.size (fun k_ => some k_ ≠ (s_.2.1 : Value).ownBlock) s_.1 t234) ∧ (Kd.R (Kd.int .i64) 3 w' w.heap.size (fun k_ => some k_ ≠ (s_.1 : Value).ownBlock) s_.2.1 y237) ∧ (w'.heap[gb233]? = some (.cells #[.slice none 0 0, .slice none 0 0, .slice none 0 0, .slice none 0 0] 38 (0, 0))) ∧ (w'.heap[s_.2.2]? = some (.cells #[.slice none 0 0, .slice none 0 0, .slice none 0 0, .slice none 0 0] 38 (0, 0))) ∧ (w.heap.size ≤ s_.2.2) ∧ (w.heap.size ≤ s_.2.2) ∧ (gb233 ≠ s_.2.2) ∧ (s_.2.2 ≠ gb233) ∧ (Below w.heap.size w w')) ?_ ?_
   rotate_left
   ·
    intro hJ1_4_6
    refine join_ (σ := Value × Value) 2 #[true, true, true, true, true, true, false, false] (fun s_ => [(9, s_.1), (12, s_.2), (13, .agg #[s_.1, .slice none 0 0, s_.2, .slice none 0 0])]) (fun s_ w' => (Kd.R (Kd.int .i64) 3 w' w.heap.size (fun k_ => some k_ ≠ (s_.2 : Value).ownBlock) s_.1 t234) ∧ (Kd.R (Kd.int .i64) 3 w' w.heap.size (fun k_ => some k_ ≠ (s_.1 : Value).ownBlock) s_.2 y237) ∧ (w'.heap[gb233]? = some (.cells #[.slice none 0 0, .slice none 0 0, .slice none 0 0, .slice none 0 0] 38 (0, 0))) ∧ (Below w.heap.size w w')) ?_ ?_
    rotate_left
    ·
     intro hJ1_4
     refine join_ (σ := Value × Nat) 3 #[true, true, true, true, false, false, true, false] (fun s_ => [(9, s_.1), (7, .pointer (some ⟨s_.2, 0, none⟩))]) (fun s_ w' => (Kd.R (Kd.int .i64) 3 w' w.heap.size (fun _ => True) s_.1 t234) ∧ (w'.heap[gb233]? = some (.cells #[.slice none 0 0, .slice none 0 0, .slice none 0 0, .slice none 0 0] 38 (0, 0))) ∧ (w'.heap[s_.2]? = some (.cells #[.slice none 0 0, .slice none 0 0, .slice none 0 0, .slice none 0 0] 38 (0, 0))) ∧ (w.heap.size ≤ s_.2) ∧ (w.heap.size ≤ s_.2) ∧ (gb233 ≠ s_.2) ∧ (s_.2 ≠ gb233) ∧ (Below w.heap.size w w')) ?_ ?_
     rotate_left
     ·
      intro hJ1_6
      refine join_ (σ := Value × Nat) 3 #[true, false, true, true, true, false, true, false] (fun s_ => [(12, s_.1), (7, .pointer (some ⟨s_.2, 0, none⟩))]) (fun s_ w' => (Kd.R (Kd.int .i64) 3 w' w.heap.size (fun _ => True) s_.1 y237) ∧ (w'.heap[gb233]? = some (.cells #[.slice none 0 0, .slice none 0 0, .slice none 0 0, .slice none 0 0] 38 (0, 0))) ∧ (w'.heap[s_.2]? = some (.cells #[.slice none 0 0, .slice none 0 0, .slice none 0 0, .slice none 0 0] 38 (0, 0))) ∧ (w.heap.size ≤ s_.2) ∧ (w.heap.size ≤ s_.2) ∧ (gb233 ≠ s_.2) ∧ (s_.2 ≠ gb233) ∧ (Below w.heap.size w w')) ?_ ?_
      rotate_left
      ·
       intro hJ4_6
       refine join_ (σ := Value) 4 #[true, true, true, true, false, false, false, false] (fun s_ => [(9, s_)]) (fun s_ w' => (Kd.R (Kd.int .i64) 3 w' w.heap.size (fun _ => True) s_ t234) ∧ (w'.heap[gb233]? = some (.cells #[.slice none 0 0, .slice none 0 0, .slice none 0 0, .slice none 0 0] 38 (0, 0))) ∧ (Below w.heap.size w w')) ?_ ?_
       rotate_left
       ·
        intro hJ1
        refine join_ (σ := Value) 4 #[true, false, true, true, true, false, false, false] (fun s_ => [(12, s_)]) (fun s_ w' => (Kd.R (Kd.int .i64) 3 w' w.heap.size (fun _ => True) s_ y237) ∧ (w'.heap[gb233]? = some (.cells #[.slice none 0 0, .slice none 0 0, .slice none 0 0, .slice none 0 0] 38 (0, 0))) ∧ (Below w.heap.size w w')) ?_ ?_
        rotate_left
        ·
         intro hJ4
         refine join_ (σ := Nat) 4 #[true, false, true, true, false, false, true, false] (fun s_ => [(7, .pointer (some ⟨s_, 0, none⟩))]) (fun s_ w' => (w'.heap[gb233]? = some (.cells #[.slice none 0 0, .slice none 0 0, .slice none 0 0, .slice none 0 0] 38 (0, 0))) ∧ (w'.heap[s_]? = some (.cells #[.slice none 0 0, .slice none 0 0, .slice none 0 0, .slice none 0 0] 38 (0, 0))) ∧ (w.heap.size ≤ s_) ∧ (w.heap.size ≤ s_) ∧ (gb233 ≠ s_) ∧ (s_ ≠ gb233) ∧ (Below w.heap.size w w')) ?_ ?_
         rotate_left
         ·
          intro hJ6
          refine three_ (i := 1) (j := 4) (k := 6) (Ni := some 9) (Nj := some 12) (Nk := some 7) #[true, true, true, true, false, false, false, false] #[true, false, true, true, true, false, false, false] #[true, false, true, true, false, false, true, false] rfl rfl rfl rfl rfl rfl (three_of HT_.out (by kernel_rfl)) (by decide) (by decide) (by decide) (fun K hK => ?_) (fun K hK => ?_) (fun K hK => ?_)
          ·
           skip
           refine goes_ Try.func58 (by kernel_rfl) rfl #[.slice A0 l0.length c0] (by rfl) rfl rfl (by (try simp only [List.map_toArray, List.map_cons, List.map_nil]); first | done | rfl | (simp only [List.length_drop, List.length_take]; rfl)) ?_
           with_reducible refine (impl_copied.calls _ _ l0 t234 _ ?side1 ?side2 A4.out).mono ?_
           (case side1 => repeat (first | exact (Kd.C_below HR0.out HB.out) | (with_reducible refine ca_ ?_ _) | (with_reducible refine cn_ ?_ _) | (with_reducible refine cd_ ?_)))
           (case side2 => exact HC0.out)
           rintro e w9 ⟨v235, rfl, ho0, hb⟩
           refine ⟨_, rfl, ?_⟩
           have n0_ := am_ (Kd.R_lower ho0 (bz_ (by repeat (first | (with_reducible first | exact HB.out | apply ba_ | apply pw_below_drewN | apply bd_ | refine bs_ ?_ GE233.out) | exact HB.out))))
           have n1_ := am_ (kb_ (g := gb233) (o := .cells #[.slice none 0 0, .slice none 0 0, .slice none 0 0, .slice none 0 0] 38 (0, 0)) (by (with_reducible repeat (first | refine kn_ ?_ _ | refine kd_ ?_ | refine ka_ ?_ _)); exact BK233.out) hb)
           have n2_ := am_ (bp_ (by repeat (first | (with_reducible first | exact HB.out | apply ba_ | apply pw_below_drewN | apply bd_ | refine bs_ ?_ GE233.out) | exact HB.out)) hb)
           clear BK233
           clear HB
           have HO236 := n0_
           have BK233 := n1_
           have HB := n2_
           clear n0_ n1_ n2_
           (try clear hb)
           (try clear hb2)
           (try clear hk)
           (try clear hi)
           (try clear ho0)
           refine hK.out _ _ trivial (fun hHeld => ?_)
           clear hK K
           refine norm_ (a' := ?_) ?_ ?_
           rotate_left
           ·
            show Act.put _ (some 9) _ = _
            simp only [Act.put, List.setIfInBounds_toArray, List.set_cons_zero, List.set_cons_succ, i64_w, i32_w]
            rfl
           exact norm_ (by first | (simp only [putAll, Act.put, List.setIfInBounds_toArray, List.set_cons_zero, List.set_cons_succ]; done) | (simp only [putAll, Act.put, List.setIfInBounds_toArray, List.set_cons_zero, List.set_cons_succ]; rfl)) (hJ1 (v235) _ ⟨(by (with_reducible repeat (first | apply ra_ | apply rn_ | apply rd_)); exact HO236.out), (by (with_reducible repeat (first | refine kn_ ?_ _ | refine kd_ ?_ | refine ka_ ?_ _)); exact BK233.out), (by repeat (first | (with_reducible first | exact HB.out | apply ba_ | apply pw_below_drewN | apply bd_ | refine bs_ ?_ GE233.out) | exact HB.out))⟩)
          ·
           skip
           refine Kd.R_make_step (Kd.int .i64) _ 3 (by rfl) (N := 12) rfl 22 _ _ rfl (l0.length : Int) rfl rfl Try.underlying22 (.int .i64 0) 8 info3 rfl (by decide) (by omega) 0 (ok := fun _ => True) (okp := fun _ => True) rfl (fun _ hk => hk) trivial (of_decide_eq_true (by first | (with_reducible assumption) | assumption)) (Nat.le_trans (Nat.mul_le_mul_right _ (of_decide_eq_true (by first | (with_reducible assumption) | assumption) : (l0.length : Int).toNat ≤ 35184372088832)) (by omega)) (Below.refl _ _) (Nat.le_refl _) ?_
           intro v238 w9 ho10 hb hg_ hnew_
           clear hg_ hnew_
           (first | rw [← Ny237.out] at ho10 | (simp only [Int.reduceToNat] at ho10; rw [← Ny237.out] at ho10))
           have n0_ := am_ (Kd.R_lower ho10 (bz_ (by repeat (first | (with_reducible first | exact HB.out | apply ba_ | apply pw_below_drewN | apply bd_ | refine bs_ ?_ GE233.out) | exact HB.out))))
           have n1_ := am_ (kb_ (g := gb233) (o := .cells #[.slice none 0 0, .slice none 0 0, .slice none 0 0, .slice none 0 0] 38 (0, 0)) (by (with_reducible repeat (first | refine kn_ ?_ _ | refine kd_ ?_ | refine ka_ ?_ _)); exact BK233.out) hb)
           have n2_ := am_ (bp_ (by repeat (first | (with_reducible first | exact HB.out | apply ba_ | apply pw_below_drewN | apply bd_ | refine bs_ ?_ GE233.out) | exact HB.out)) hb)
           clear BK233
           clear HB
           have HO239 := n0_
           have BK233 := n1_
           have HB := n2_
           clear n0_ n1_ n2_
           clear hb ho10
           refine hK.out _ _ trivial (fun hHeld => ?_)
           clear hK K
           refine norm_ (a' := ?_) ?_ ?_
           rotate_left
           ·
            show Act.put _ (some 12) _ = _
            simp only [Act.put, List.setIfInBounds_toArray, List.set_cons_zero, List.set_cons_succ, i64_w, i32_w]
            rfl
           exact norm_ (by first | (simp only [putAll, Act.put, List.setIfInBounds_toArray, List.set_cons_zero, List.set_cons_succ]; done) | (simp only [putAll, Act.put, List.setIfInBounds_toArray, List.set_cons_zero, List.set_cons_succ]; rfl)) (hJ4 (v238) _ ⟨(by (with_reducible repeat (first | apply ra_ | apply rn_ | apply rd_)); exact HO239.out), (by (with_reducible repeat (first | refine kn_ ?_ _ | refine kd_ ?_ | refine ka_ ?_ _)); exact BK233.out), (by repeat (first | (with_reducible first | exact HB.out | apply ba_ | apply pw_below_drewN | apply bd_ | refine bs_ ?_ GE233.out) | exact HB.out))⟩)
          ·
           skip
           refine box_step ?hg (N := 7) ?hd (cs := #[.slice none 0 0, .slice none 0 0, .slice none 0 0, .slice none 0 0]) (t := 38) ?hr ?_; (case hd => rfl); (case hg => rfl); (case hr => first | (go_simp; done) | (go_simp; rfl))
           intro gb240 hg w9 hbox hb
           have n0_ := am_ (kb_ (g := gb233) (o := .cells #[.slice none 0 0, .slice none 0 0, .slice none 0 0, .slice none 0 0] 38 (0, 0)) (by (with_reducible repeat (first | refine kn_ ?_ _ | refine kd_ ?_ | refine ka_ ?_ _)); exact BK233.out) hb)
           have n1_ := am_ (bp_ (by repeat (first | (with_reducible first | exact HB.out | apply ba_ | apply pw_below_drewN | apply bd_ | refine bs_ ?_ GE233.out) | exact HB.out)) hb)
           have n2_ := am_ (hbox)
           have n3_ := am_ ((by rw [hg]; exact (bz_ (by repeat (first | (with_reducible first | exact HB.out | apply ba_ | apply pw_below_drewN | apply bd_ | refine bs_ ?_ GE233.out) | exact HB.out))) : w.heap.size ≤ gb240))
           have n4_ := am_ ((by rw [hg]; exact (bz_ (by repeat (first | (with_reducible first | exact HB.out | apply ba_ | apply pw_below_drewN | apply bd_ | refine bs_ ?_ GE233.out) | exact HB.out))) : w.heap.size ≤ gb240))
           have n5_ := am_ ((by rw [hg]; exact Nat.ne_of_lt (blk_lt (g := gb233) (o := .cells #[.slice none 0 0, .slice none 0 0, .slice none 0 0, .slice none 0 0] 38 (0, 0)) (by (with_reducible repeat (first | refine kn_ ?_ _ | refine kd_ ?_ | refine ka_ ?_ _)); exact BK233.out)) : gb233 ≠ gb240))
           have n6_ := am_ ((by rw [hg]; exact Nat.ne_of_gt (blk_lt (g := gb233) (o := .cells #[.slice none 0 0, .slice none 0 0, .slice none 0 0, .slice none 0 0] 38 (0, 0)) (by (with_reducible repeat (first | refine kn_ ?_ _ | refine kd_ ?_ | refine ka_ ?_ _)); exact BK233.out)) : gb240 ≠ gb233))
           clear BK233
           clear HB
           have BK233 := n0_
           have HB := n1_
           have BK240 := n2_
           have GW240 := n3_
           have GE240 := n4_
           have NB233_240 := n5_
           have NB240_233 := n6_
           clear n0_ n1_ n2_ n3_ n4_ n5_ n6_
           clear hb hbox hg
           refine hK.out _ _ trivial (fun hHeld => ?_)
           clear hK K
           refine norm_ (a' := ?_) ?_ ?_
           rotate_left
           ·
            show Act.put _ (some 7) _ = _
            simp only [Act.put, List.setIfInBounds_toArray, List.set_cons_zero, List.set_cons_succ, i64_w, i32_w]
            rfl
           exact norm_ (by first | (simp only [putAll, Act.put, List.setIfInBounds_toArray, List.set_cons_zero, List.set_cons_succ]; done) | (simp only [putAll, Act.put, List.setIfInBounds_toArray, List.set_cons_zero, List.set_cons_succ]; rfl)) (hJ6 (gb240) _ ⟨(by (with_reducible repeat (first | refine kn_ ?_ _ | refine kd_ ?_ | refine ka_ ?_ _)); exact BK233.out), (by (with_reducible repeat (first | refine kn_ ?_ _ | refine kd_ ?_ | refine ka_ ?_ _)); exact BK240.out), GW240.out, GE240.out, NB233_240.out, NB240_233.out, (by repeat (first | (with_reducible first | exact HB.out | apply ba_ | apply pw_below_drewN | apply bd_ | refine bs_ ?_ GE233.out | refine bs_ ?_ GE240.out) | exact HB.out))⟩)
         ·
          skip
          rintro gb240 w10 ⟨h0_, h1_, h2_, h3_, h4_, h5_, h6_⟩
          have n0_ : Aside0 (w10.heap[gb233]? = some (.cells #[.slice none 0 0, .slice none 0 0, .slice none 0 0, .slice none 0 0] 38 (0, 0))) := ⟨h0_⟩
          have n1_ : Aside0 (w10.heap[gb240]? = some (.cells #[.slice none 0 0, .slice none 0 0, .slice none 0 0, .slice none 0 0] 38 (0, 0))) := ⟨h1_⟩
          have n2_ : Aside0 (w.heap.size ≤ gb240) := ⟨h2_⟩
          have n3_ : Aside0 (w.heap.size ≤ gb240) := ⟨h3_⟩
          have n4_ : Aside0 (gb233 ≠ gb240) := ⟨h4_⟩
          have n5_ : Aside0 (gb240 ≠ gb233) := ⟨h5_⟩
          have n6_ : Aside0 (Below w.heap.size w w10) := ⟨h6_⟩
          clear BK233
          clear HB
          clear h0_ h1_ h2_ h3_ h4_ h5_ h6_
          have BK233 := n0_
          have BK240 := n1_
          have GW240 := n2_
          have GE240 := n3_
          have NB233_240 := n4_
          have NB240_233 := n5_
          have HB := n6_
          clear n0_ n1_ n2_ n3_ n4_ n5_ n6_
          have hHeld := trivial
          refine norm_ (a' := ?_) ?_ ?_
          rotate_left
          ·
           simp only [putAll, Act.put, List.setIfInBounds_toArray, List.set_cons_zero, List.set_cons_succ]
           rfl
          refine two_ (i := 1) (j := 4) (Ni := some 9) (Nj := some 12) #[true, true, true, true, false, false, true, false] #[true, false, true, true, true, false, true, false] rfl rfl rfl rfl (two_of HT_.out (by kernel_rfl)) (by decide) (by decide) (fun K hK => ?_) (fun K hK => ?_)
          ·
           skip
           refine goes_ Try.func58 (by kernel_rfl) rfl #[.slice A0 l0.length c0] (by rfl) rfl rfl (by (try simp only [List.map_toArray, List.map_cons, List.map_nil]); first | done | rfl | (simp only [List.length_drop, List.length_take]; rfl)) ?_
           with_reducible refine (impl_copied.calls _ _ l0 t234 _ ?side1 ?side2 A4.out).mono ?_
           (case side1 => repeat (first | exact (Kd.C_below HR0.out HB.out) | (with_reducible refine ca_ ?_ _) | (with_reducible refine cn_ ?_ _) | (with_reducible refine cd_ ?_)))
           (case side2 => exact HC0.out)
           rintro e w11 ⟨v235, rfl, ho0, hb⟩
           refine ⟨_, rfl, ?_⟩
           have n0_ := am_ (Kd.R_lower ho0 (bz_ (by repeat (first | (with_reducible first | exact HB.out | apply ba_ | apply pw_below_drewN | apply bd_ | refine bs_ ?_ GE233.out | refine bs_ ?_ GE240.out) | exact HB.out))))
           have n1_ := am_ (kb_ (g := gb233) (o := .cells #[.slice none 0 0, .slice none 0 0, .slice none 0 0, .slice none 0 0] 38 (0, 0)) (by (with_reducible repeat (first | refine kn_ ?_ _ | refine kd_ ?_ | refine ka_ ?_ _)); exact BK233.out) hb)
           have n2_ := am_ (kb_ (g := gb240) (o := .cells #[.slice none 0 0, .slice none 0 0, .slice none 0 0, .slice none 0 0] 38 (0, 0)) (by (with_reducible repeat (first | refine kn_ ?_ _ | refine kd_ ?_ | refine ka_ ?_ _)); exact BK240.out) hb)
           have n3_ := am_ (bp_ (by repeat (first | (with_reducible first | exact HB.out | apply ba_ | apply pw_below_drewN | apply bd_ | refine bs_ ?_ GE233.out | refine bs_ ?_ GE240.out) | exact HB.out)) hb)
           clear BK233
           clear BK240
           clear HB
           have HO236 := n0_
           have BK233 := n1_
           have BK240 := n2_
           have HB := n3_
           clear n0_ n1_ n2_ n3_
           (try clear hb)
           (try clear hb2)
           (try clear hk)
           (try clear hi)
           (try clear ho0)
           refine hK.out _ _ trivial (fun hHeld => ?_)
           clear hK K
           refine norm_ (a' := ?_) ?_ ?_
           rotate_left
           ·
            show Act.put _ (some 9) _ = _
            simp only [Act.put, List.setIfInBounds_toArray, List.set_cons_zero, List.set_cons_succ, i64_w, i32_w]
            rfl
           exact norm_ (by first | (simp only [putAll, Act.put, List.setIfInBounds_toArray, List.set_cons_zero, List.set_cons_succ]; done) | (simp only [putAll, Act.put, List.setIfInBounds_toArray, List.set_cons_zero, List.set_cons_succ]; rfl)) (hJ1_6 (v235, gb240) _ ⟨(by (with_reducible repeat (first | apply ra_ | apply rn_ | apply rd_)); exact HO236.out), (by (with_reducible repeat (first | refine kn_ ?_ _ | refine kd_ ?_ | refine ka_ ?_ _)); exact BK233.out), (by (with_reducible repeat (first | refine kn_ ?_ _ | refine kd_ ?_ | refine ka_ ?_ _)); exact BK240.out), GW240.out, GE240.out, NB233_240.out, NB240_233.out, (by repeat (first | (with_reducible first | exact HB.out | apply ba_ | apply pw_below_drewN | apply bd_ | refine bs_ ?_ GE233.out | refine bs_ ?_ GE240.out) | exact HB.out))⟩)
          ·
           skip
           refine Kd.R_make_step (Kd.int .i64) _ 3 (by rfl) (N := 12) rfl 22 _ _ rfl (l0.length : Int) rfl rfl Try.underlying22 (.int .i64 0) 8 info3 rfl (by decide) (by omega) 0 (ok := fun _ => True) (okp := fun _ => True) rfl (fun _ hk => hk) trivial (of_decide_eq_true (by first | (with_reducible assumption) | assumption)) (Nat.le_trans (Nat.mul_le_mul_right _ (of_decide_eq_true (by first | (with_reducible assumption) | assumption) : (l0.length : Int).toNat ≤ 35184372088832)) (by omega)) (Below.refl _ _) (Nat.le_refl _) ?_
           intro v238 w11 ho12 hb hg_ hnew_
           clear hg_ hnew_
           (first | rw [← Ny237.out] at ho12 | (simp only [Int.reduceToNat] at ho12; rw [← Ny237.out] at ho12))
           have n0_ := am_ (Kd.R_lower ho12 (bz_ (by repeat (first | (with_reducible first | exact HB.out | apply ba_ | apply pw_below_drewN | apply bd_ | refine bs_ ?_ GE233.out | refine bs_ ?_ GE240.out) | exact HB.out))))
           have n1_ := am_ (kb_ (g := gb233) (o := .cells #[.slice none 0 0, .slice none 0 0, .slice none 0 0, .slice none 0 0] 38 (0, 0)) (by (with_reducible repeat (first | refine kn_ ?_ _ | refine kd_ ?_ | refine ka_ ?_ _)); exact BK233.out) hb)
           have n2_ := am_ (kb_ (g := gb240) (o := .cells #[.slice none 0 0, .slice none 0 0, .slice none 0 0, .slice none 0 0] 38 (0, 0)) (by (with_reducible repeat (first | refine kn_ ?_ _ | refine kd_ ?_ | refine ka_ ?_ _)); exact BK240.out) hb)
           have n3_ := am_ (bp_ (by repeat (first | (with_reducible first | exact HB.out | apply ba_ | apply pw_below_drewN | apply bd_ | refine bs_ ?_ GE233.out | refine bs_ ?_ GE240.out) | exact HB.out)) hb)
           clear BK233
           clear BK240
           clear HB
           have HO239 := n0_
           have BK233 := n1_
           have BK240 := n2_
           have HB := n3_
           clear n0_ n1_ n2_ n3_
           clear hb ho12
           refine hK.out _ _ trivial (fun hHeld => ?_)
           clear hK K
           refine norm_ (a' := ?_) ?_ ?_
           rotate_left
           ·
            show Act.put _ (some 12) _ = _
            simp only [Act.put, List.setIfInBounds_toArray, List.set_cons_zero, List.set_cons_succ, i64_w, i32_w]
            rfl
           exact norm_ (by first | (simp only [putAll, Act.put, List.setIfInBounds_toArray, List.set_cons_zero, List.set_cons_succ]; done) | (simp only [putAll, Act.put, List.setIfInBounds_toArray, List.set_cons_zero, List.set_cons_succ]; rfl)) (hJ4_6 (v238, gb240) _ ⟨(by (with_reducible repeat (first | apply ra_ | apply rn_ | apply rd_)); exact HO239.out), (by (with_reducible repeat (first | refine kn_ ?_ _ | refine kd_ ?_ | refine ka_ ?_ _)); exact BK233.out), (by (with_reducible repeat (first | refine kn_ ?_ _ | refine kd_ ?_ | refine ka_ ?_ _)); exact BK240.out), GW240.out, GE240.out, NB233_240.out, NB240_233.out, (by repeat (first | (with_reducible first | exact HB.out | apply ba_ | apply pw_below_drewN | apply bd_ | refine bs_ ?_ GE233.out | refine bs_ ?_ GE240.out) | exact HB.out))⟩)
        ·
         skip
         rintro v238 w11 ⟨h0_, h1_, h2_⟩
         have n0_ : Aside0 (Kd.R (Kd.int .i64) 3 w11 w.heap.size (fun _ => True) v238 y237) := ⟨h0_⟩
         have n1_ : Aside0 (w11.heap[gb233]? = some (.cells #[.slice none 0 0, .slice none 0 0, .slice none 0 0, .slice none 0 0] 38 (0, 0))) := ⟨h1_⟩
         have n2_ : Aside0 (Below w.heap.size w w11) := ⟨h2_⟩
         clear BK233
         clear HB
         clear h0_ h1_ h2_
         have HO239 := n0_
         have BK233 := n1_
         have HB := n2_
         clear n0_ n1_ n2_
         have hHeld := trivial
         refine norm_ (a' := ?_) ?_ ?_
         rotate_left
         ·
          simp only [putAll, Act.put, List.setIfInBounds_toArray, List.set_cons_zero, List.set_cons_succ]
          rfl
         refine two_ (i := 1) (j := 6) (Ni := some 9) (Nj := some 7) #[true, true, true, true, true, false, false, false] #[true, false, true, true, true, false, true, false] rfl rfl rfl rfl (two_of HT_.out (by kernel_rfl)) (by decide) (by decide) (fun K hK => ?_) (fun K hK => ?_)
         ·
          skip
          refine goes_ Try.func58 (by kernel_rfl) rfl #[.slice A0 l0.length c0] (by rfl) rfl rfl (by (try simp only [List.map_toArray, List.map_cons, List.map_nil]); first | done | rfl | (simp only [List.length_drop, List.length_take]; rfl)) ?_
          with_reducible refine (impl_copied.calls _ _ l0 t234 _ ?side1 ?side2 A4.out).mono ?_
          (case side1 => repeat (first | exact (Kd.C_below HR0.out HB.out) | (with_reducible refine ca_ ?_ _) | (with_reducible refine cn_ ?_ _) | (with_reducible refine cd_ ?_)))
          (case side2 => exact HC0.out)
          rintro e w12 ⟨v235, rfl, ho0, hb⟩
          refine ⟨_, rfl, ?_⟩
          have n0_ := am_ (Kd.R_elder' (by (with_reducible repeat (first | apply ra_ | apply rn_ | apply rd_)); exact HO239.out) (Kd.R_base ho0) hb)
          have n1_ := am_ (Kd.R_lower (Kd.R_new' ho0 (Kd.R_lt (by (with_reducible repeat (first | apply ra_ | apply rn_ | apply rd_)); exact HO239.out))) (bz_ (by repeat (first | (with_reducible first | exact HB.out | apply ba_ | apply pw_below_drewN | apply bd_ | refine bs_ ?_ GE233.out) | exact HB.out))))
          have n2_ := am_ (kb_ (g := gb233) (o := .cells #[.slice none 0 0, .slice none 0 0, .slice none 0 0, .slice none 0 0] 38 (0, 0)) (by (with_reducible repeat (first | refine kn_ ?_ _ | refine kd_ ?_ | refine ka_ ?_ _)); exact BK233.out) hb)
          have n3_ := am_ (bp_ (by repeat (first | (with_reducible first | exact HB.out | apply ba_ | apply pw_below_drewN | apply bd_ | refine bs_ ?_ GE233.out) | exact HB.out)) hb)
          clear HO239
          clear BK233
          clear HB
          have HO239 := n0_
          have HO236 := n1_
          have BK233 := n2_
          have HB := n3_
          clear n0_ n1_ n2_ n3_
          (try clear hb)
          (try clear hb2)
          (try clear hk)
          (try clear hi)
          (try clear ho0)
          obtain ⟨Ao13, co13, eo13⟩ := rs_ HO239.out
          (first | subst eo13 | (injection eo13 with f1_ f2_ f3_; have f4_ := f1_.symm; have f5_ := f3_.symm; clear f1_ f2_ f3_; subst f4_; subst f5_))
          obtain ⟨Ao14, co14, eo14⟩ := rs_ HO236.out
          (first | subst eo14 | (injection eo14 with f1_ f2_ f3_; have f4_ := f1_.symm; have f5_ := f3_.symm; clear f1_ f2_ f3_; subst f4_; subst f5_))
          refine hK.out _ _ trivial (fun hHeld => ?_)
          clear hK K
          refine norm_ (a' := ?_) ?_ ?_
          rotate_left
          ·
           show Act.put _ (some 9) _ = _
           simp only [Act.put, List.setIfInBounds_toArray, List.set_cons_zero, List.set_cons_succ, i64_w, i32_w]
           rfl
          refine pure_ (i := 5) (N := some 13) (v := ?_) (a' := ?_) #[true, true, true, true, true, true, false, false] rfl rfl (any_of HT_.out (by kernel_rfl)) (fun _ _ _ h => h) (Or.inl ⟨by rfl, ?_⟩) ?_ ?_
          rotate_left
          ·
           intro w'
           go_simp
           with_reducible rfl
          rotate_left
          ·
           simp only [Act.put, List.setIfInBounds_toArray, List.set_cons_zero, List.set_cons_succ, i64_w, i32_w]
           rfl
          exact norm_ (by first | (simp only [putAll, Act.put, List.setIfInBounds_toArray, List.set_cons_zero, List.set_cons_succ]; done) | (simp only [putAll, Act.put, List.setIfInBounds_toArray, List.set_cons_zero, List.set_cons_succ]; rfl)) (hJ1_4 (.slice Ao14 t234.length co14, .slice Ao13 y237.length co13) _ ⟨(by (with_reducible repeat (first | apply ra_ | apply rn_ | apply rd_)); exact rm_ HO236.out (fun _ hk => hk.2)), (by (with_reducible repeat (first | apply ra_ | apply rn_ | apply rd_)); exact rm_ HO239.out (fun _ hk => hk.2)), (by (with_reducible repeat (first | refine kn_ ?_ _ | refine kd_ ?_ | refine ka_ ?_ _)); exact BK233.out), (by repeat (first | (with_reducible first | exact HB.out | apply ba_ | apply pw_below_drewN | apply bd_ | refine bs_ ?_ GE233.out) | exact HB.out))⟩)
         ·
          skip
          refine box_step ?hg (N := 7) ?hd (cs := #[.slice none 0 0, .slice none 0 0, .slice none 0 0, .slice none 0 0]) (t := 38) ?hr ?_; (case hd => rfl); (case hg => rfl); (case hr => first | (go_simp; done) | (go_simp; rfl))
          intro gb240 hg w12 hbox hb
          have n0_ := am_ (Kd.R_below (by (with_reducible repeat (first | apply ra_ | apply rn_ | apply rd_)); exact HO239.out) hb)
          have n1_ := am_ (kb_ (g := gb233) (o := .cells #[.slice none 0 0, .slice none 0 0, .slice none 0 0, .slice none 0 0] 38 (0, 0)) (by (with_reducible repeat (first | refine kn_ ?_ _ | refine kd_ ?_ | refine ka_ ?_ _)); exact BK233.out) hb)
          have n2_ := am_ (bp_ (by repeat (first | (with_reducible first | exact HB.out | apply ba_ | apply pw_below_drewN | apply bd_ | refine bs_ ?_ GE233.out) | exact HB.out)) hb)
          have n3_ := am_ (hbox)
          have n4_ := am_ ((by rw [hg]; exact (bz_ (by repeat (first | (with_reducible first | exact HB.out | apply ba_ | apply pw_below_drewN | apply bd_ | refine bs_ ?_ GE233.out) | exact HB.out))) : w.heap.size ≤ gb240))
          have n5_ := am_ ((by rw [hg]; exact (bz_ (by repeat (first | (with_reducible first | exact HB.out | apply ba_ | apply pw_below_drewN | apply bd_ | refine bs_ ?_ GE233.out) | exact HB.out))) : w.heap.size ≤ gb240))
          have n6_ := am_ ((by rw [hg]; exact Nat.ne_of_lt (blk_lt (g := gb233) (o := .cells #[.slice none 0 0, .slice none 0 0, .slice none 0 0, .slice none 0 0] 38 (0, 0)) (by (with_reducible repeat (first | refine kn_ ?_ _ | refine kd_ ?_ | refine ka_ ?_ _)); exact BK233.out)) : gb233 ≠ gb240))
          have n7_ := am_ ((by rw [hg]; exact Nat.ne_of_gt (blk_lt (g := gb233) (o := .cells #[.slice none 0 0, .slice none 0 0, .slice none 0 0, .slice none 0 0] 38 (0, 0)) (by (with_reducible repeat (first | refine kn_ ?_ _ | refine kd_ ?_ | refine ka_ ?_ _)); exact BK233.out)) : gb240 ≠ gb233))
          clear HO239
          clear BK233
          clear HB
          have HO239 := n0_
          have BK233 := n1_
          have HB := n2_
          have BK240 := n3_
          have GW240 := n4_
          have GE240 := n5_
          have NB233_240 := n6_
          have NB240_233 := n7_
          clear n0_ n1_ n2_ n3_ n4_ n5_ n6_ n7_
          clear hb hbox hg
          refine hK.out _ _ trivial (fun hHeld => ?_)
          clear hK K
          refine norm_ (a' := ?_) ?_ ?_
          rotate_left
          ·
           show Act.put _ (some 7) _ = _
           simp only [Act.put, List.setIfInBounds_toArray, List.set_cons_zero, List.set_cons_succ, i64_w, i32_w]
           rfl
          exact norm_ (by first | (simp only [putAll, Act.put, List.setIfInBounds_toArray, List.set_cons_zero, List.set_cons_succ]; done) | (simp only [putAll, Act.put, List.setIfInBounds_toArray, List.set_cons_zero, List.set_cons_succ]; rfl)) (hJ4_6 (v238, gb240) _ ⟨(by (with_reducible repeat (first | apply ra_ | apply rn_ | apply rd_)); exact HO239.out), (by (with_reducible repeat (first | refine kn_ ?_ _ | refine kd_ ?_ | refine ka_ ?_ _)); exact BK233.out), (by (with_reducible repeat (first | refine kn_ ?_ _ | refine kd_ ?_ | refine ka_ ?_ _)); exact BK240.out), GW240.out, GE240.out, NB233_240.out, NB240_233.out, (by repeat (first | (with_reducible first | exact HB.out | apply ba_ | apply pw_below_drewN | apply bd_ | refine bs_ ?_ GE233.out | refine bs_ ?_ GE240.out) | exact HB.out))⟩)
       ·
        skip
        rintro v235 w10 ⟨h0_, h1_, h2_⟩
        have n0_ : Aside0 (Kd.R (Kd.int .i64) 3 w10 w.heap.size (fun _ => True) v235 t234) := ⟨h0_⟩
        have n1_ : Aside0 (w10.heap[gb233]? = some (.cells #[.slice none 0 0, .slice none 0 0, .slice none 0 0, .slice none 0 0] 38 (0, 0))) := ⟨h1_⟩
        have n2_ : Aside0 (Below w.heap.size w w10) := ⟨h2_⟩
        clear BK233
        clear HB
        clear h0_ h1_ h2_
        have HO236 := n0_
        have BK233 := n1_
        have HB := n2_
        clear n0_ n1_ n2_
        have hHeld := trivial
        refine norm_ (a' := ?_) ?_ ?_
        rotate_left
        ·
         simp only [putAll, Act.put, List.setIfInBounds_toArray, List.set_cons_zero, List.set_cons_succ]
         rfl
        refine two_ (i := 4) (j := 6) (Ni := some 12) (Nj := some 7) #[true, true, true, true, true, false, false, false] #[true, true, true, true, false, false, true, false] rfl rfl rfl rfl (two_of HT_.out (by kernel_rfl)) (by decide) (by decide) (fun K hK => ?_) (fun K hK => ?_)
        ·
         skip
         refine Kd.R_make_step (Kd.int .i64) _ 3 (by rfl) (N := 12) rfl 22 _ _ rfl (l0.length : Int) rfl rfl Try.underlying22 (.int .i64 0) 8 info3 rfl (by decide) (by omega) 0 (ok := fun _ => True) (okp := fun _ => True) rfl (fun _ hk => hk) trivial (of_decide_eq_true (by first | (with_reducible assumption) | assumption)) (Nat.le_trans (Nat.mul_le_mul_right _ (of_decide_eq_true (by first | (with_reducible assumption) | assumption) : (l0.length : Int).toNat ≤ 35184372088832)) (by omega)) (Below.refl _ _) (Nat.le_refl _) ?_
         intro v238 w11 ho12 hb hg_ hnew_
         clear hg_ hnew_
         (first | rw [← Ny237.out] at ho12 | (simp only [Int.reduceToNat] at ho12; rw [← Ny237.out] at ho12))
         have n0_ := am_ (Kd.R_elder' (by (with_reducible repeat (first | apply ra_ | apply rn_ | apply rd_)); exact HO236.out) (Kd.R_base ho12) hb)
         have n1_ := am_ (Kd.R_lower (Kd.R_new' ho12 (Kd.R_lt (by (with_reducible repeat (first | apply ra_ | apply rn_ | apply rd_)); exact HO236.out))) (bz_ (by repeat (first | (with_reducible first | exact HB.out | apply ba_ | apply pw_below_drewN | apply bd_ | refine bs_ ?_ GE233.out) | exact HB.out))))
         have n2_ := am_ (kb_ (g := gb233) (o := .cells #[.slice none 0 0, .slice none 0 0, .slice none 0 0, .slice none 0 0] 38 (0, 0)) (by (with_reducible repeat (first | refine kn_ ?_ _ | refine kd_ ?_ | refine ka_ ?_ _)); exact BK233.out) hb)
         have n3_ := am_ (bp_ (by repeat (first | (with_reducible first | exact HB.out | apply ba_ | apply pw_below_drewN | apply bd_ | refine bs_ ?_ GE233.out) | exact HB.out)) hb)
         clear HO236
         clear BK233
         clear HB
         have HO236 := n0_
         have HO239 := n1_
         have BK233 := n2_
         have HB := n3_
         clear n0_ n1_ n2_ n3_
         clear hb ho12
         obtain ⟨Ao13, co13, eo13⟩ := rs_ HO239.out
         (first | subst eo13 | (injection eo13 with f1_ f2_ f3_; have f4_ := f1_.symm; have f5_ := f3_.symm; clear f1_ f2_ f3_; subst f4_; subst f5_))
         obtain ⟨Ao14, co14, eo14⟩ := rs_ HO236.out
         (first | subst eo14 | (injection eo14 with f1_ f2_ f3_; have f4_ := f1_.symm; have f5_ := f3_.symm; clear f1_ f2_ f3_; subst f4_; subst f5_))
         refine hK.out _ _ trivial (fun hHeld => ?_)
         clear hK K
         refine norm_ (a' := ?_) ?_ ?_
         rotate_left
         ·
          show Act.put _ (some 12) _ = _
          simp only [Act.put, List.setIfInBounds_toArray, List.set_cons_zero, List.set_cons_succ, i64_w, i32_w]
          rfl
         refine pure_ (i := 5) (N := some 13) (v := ?_) (a' := ?_) #[true, true, true, true, true, true, false, false] rfl rfl (any_of HT_.out (by kernel_rfl)) (fun _ _ _ h => h) (Or.inl ⟨by rfl, ?_⟩) ?_ ?_
         rotate_left
         ·
          intro w'
          go_simp
          with_reducible rfl
         rotate_left
         ·
          simp only [Act.put, List.setIfInBounds_toArray, List.set_cons_zero, List.set_cons_succ, i64_w, i32_w]
          rfl
         exact norm_ (by first | (simp only [putAll, Act.put, List.setIfInBounds_toArray, List.set_cons_zero, List.set_cons_succ]; done) | (simp only [putAll, Act.put, List.setIfInBounds_toArray, List.set_cons_zero, List.set_cons_succ]; rfl)) (hJ1_4 (.slice Ao14 t234.length co14, .slice Ao13 y237.length co13) _ ⟨(by (with_reducible repeat (first | apply ra_ | apply rn_ | apply rd_)); exact rm_ HO236.out (fun _ hk => hk.2)), (by (with_reducible repeat (first | apply ra_ | apply rn_ | apply rd_)); exact rm_ HO239.out (fun _ hk => hk.2)), (by (with_reducible repeat (first | refine kn_ ?_ _ | refine kd_ ?_ | refine ka_ ?_ _)); exact BK233.out), (by repeat (first | (with_reducible first | exact HB.out | apply ba_ | apply pw_below_drewN | apply bd_ | refine bs_ ?_ GE233.out) | exact HB.out))⟩)
        ·
         skip
         refine box_step ?hg (N := 7) ?hd (cs := #[.slice none 0 0, .slice none 0 0, .slice none 0 0, .slice none 0 0]) (t := 38) ?hr ?_; (case hd => rfl); (case hg => rfl); (case hr => first | (go_simp; done) | (go_simp; rfl))
         intro gb240 hg w11 hbox hb
         have n0_ := am_ (Kd.R_below (by (with_reducible repeat (first | apply ra_ | apply rn_ | apply rd_)); exact HO236.out) hb)
         have n1_ := am_ (kb_ (g := gb233) (o := .cells #[.slice none 0 0, .slice none 0 0, .slice none 0 0, .slice none 0 0] 38 (0, 0)) (by (with_reducible repeat (first | refine kn_ ?_ _ | refine kd_ ?_ | refine ka_ ?_ _)); exact BK233.out) hb)
         have n2_ := am_ (bp_ (by repeat (first | (with_reducible first | exact HB.out | apply ba_ | apply pw_below_drewN | apply bd_ | refine bs_ ?_ GE233.out) | exact HB.out)) hb)
         have n3_ := am_ (hbox)
         have n4_ := am_ ((by rw [hg]; exact (bz_ (by repeat (first | (with_reducible first | exact HB.out | apply ba_ | apply pw_below_drewN | apply bd_ | refine bs_ ?_ GE233.out) | exact HB.out))) : w.heap.size ≤ gb240))
         have n5_ := am_ ((by rw [hg]; exact (bz_ (by repeat (first | (with_reducible first | exact HB.out | apply ba_ | apply pw_below_drewN | apply bd_ | refine bs_ ?_ GE233.out) | exact HB.out))) : w.heap.size ≤ gb240))
         have n6_ := am_ ((by rw [hg]; exact Nat.ne_of_lt (blk_lt (g := gb233) (o := .cells #[.slice none 0 0, .slice none 0 0, .slice none 0 0, .slice none 0 0] 38 (0, 0)) (by (with_reducible repeat (first | refine kn_ ?_ _ | refine kd_ ?_ | refine ka_ ?_ _)); exact BK233.out)) : gb233 ≠ gb240))
         have n7_ := am_ ((by rw [hg]; exact Nat.ne_of_gt (blk_lt (g := gb233) (o := .cells #[.slice none 0 0, .slice none 0 0, .slice none 0 0, .slice none 0 0] 38 (0, 0)) (by (with_reducible repeat (first | refine kn_ ?_ _ | refine kd_ ?_ | refine ka_ ?_ _)); exact BK233.out)) : gb240 ≠ gb233))
         clear HO236
         clear BK233
         clear HB
         have HO236 := n0_
         have BK233 := n1_
         have HB := n2_
         have BK240 := n3_
         have GW240 := n4_
         have GE240 := n5_
         have NB233_240 := n6_
         have NB240_233 := n7_
         clear n0_ n1_ n2_ n3_ n4_ n5_ n6_ n7_
         clear hb hbox hg
         refine hK.out _ _ trivial (fun hHeld => ?_)
         clear hK K
         refine norm_ (a' := ?_) ?_ ?_
         rotate_left
         ·
          show Act.put _ (some 7) _ = _
          simp only [Act.put, List.setIfInBounds_toArray, List.set_cons_zero, List.set_cons_succ, i64_w, i32_w]
          rfl
         exact norm_ (by first | (simp only [putAll, Act.put, List.setIfInBounds_toArray, List.set_cons_zero, List.set_cons_succ]; done) | (simp only [putAll, Act.put, List.setIfInBounds_toArray, List.set_cons_zero, List.set_cons_succ]; rfl)) (hJ1_6 (v235, gb240) _ ⟨(by (with_reducible repeat (first | apply ra_ | apply rn_ | apply rd_)); exact HO236.out), (by (with_reducible repeat (first | refine kn_ ?_ _ | refine kd_ ?_ | refine ka_ ?_ _)); exact BK233.out), (by (with_reducible repeat (first | refine kn_ ?_ _ | refine kd_ ?_ | refine ka_ ?_ _)); exact BK240.out), GW240.out, GE240.out, NB233_240.out, NB240_233.out, (by repeat (first | (with_reducible first | exact HB.out | apply ba_ | apply pw_below_drewN | apply bd_ | refine bs_ ?_ GE233.out | refine bs_ ?_ GE240.out) | exact HB.out))⟩)
      ·
       skip
       rintro ⟨v238, gb240⟩ w12 ⟨h0_, h1_, h2_, h3_, h4_, h5_, h6_, h7_⟩
       have n0_ : Aside0 (Kd.R (Kd.int .i64) 3 w12 w.heap.size (fun _ => True) v238 y237) := ⟨h0_⟩
       have n1_ : Aside0 (w12.heap[gb233]? = some (.cells #[.slice none 0 0, .slice none 0 0, .slice none 0 0, .slice none 0 0] 38 (0, 0))) := ⟨h1_⟩
       have n2_ : Aside0 (w12.heap[gb240]? = some (.cells #[.slice none 0 0, .slice none 0 0, .slice none 0 0, .slice none 0 0] 38 (0, 0))) := ⟨h2_⟩
       have n3_ : Aside0 (w.heap.size ≤ gb240) := ⟨h3_⟩
       have n4_ : Aside0 (w.heap.size ≤ gb240) := ⟨h4_⟩
       have n5_ : Aside0 (gb233 ≠ gb240) := ⟨h5_⟩
       have n6_ : Aside0 (gb240 ≠ gb233) := ⟨h6_⟩
       have n7_ : Aside0 (Below w.heap.size w w12) := ⟨h7_⟩
       clear BK233
       clear HB
       clear h0_ h1_ h2_ h3_ h4_ h5_ h6_ h7_
       have HO239 := n0_
       have BK233 := n1_
       have BK240 := n2_
       have GW240 := n3_
       have GE240 := n4_
       have NB233_240 := n5_
       have NB240_233 := n6_
       have HB := n7_
       clear n0_ n1_ n2_ n3_ n4_ n5_ n6_ n7_
       have hHeld := trivial
       refine norm_ (a' := ?_) ?_ ?_
       rotate_left
       ·
        simp only [putAll, Act.put, List.setIfInBounds_toArray, List.set_cons_zero, List.set_cons_succ]
        rfl
       refine one_ (i := 1) (N := some 9) #[true, true, true, true, true, false, true, false] rfl rfl (one_of HT_.out (by kernel_rfl)) (by decide) (fun K hK => ?_)
       refine goes_ Try.func58 (by kernel_rfl) rfl #[.slice A0 l0.length c0] (by rfl) rfl rfl (by (try simp only [List.map_toArray, List.map_cons, List.map_nil]); first | done | rfl | (simp only [List.length_drop, List.length_take]; rfl)) ?_
       with_reducible refine (impl_copied.calls _ _ l0 t234 _ ?side1 ?side2 A4.out).mono ?_
       (case side1 => repeat (first | exact (Kd.C_below HR0.out HB.out) | (with_reducible refine ca_ ?_ _) | (with_reducible refine cn_ ?_ _) | (with_reducible refine cd_ ?_)))
       (case side2 => exact HC0.out)
       rintro e w13 ⟨v235, rfl, ho0, hb⟩
       refine ⟨_, rfl, ?_⟩
       have n0_ := am_ (Kd.R_elder' (by (with_reducible repeat (first | apply ra_ | apply rn_ | apply rd_)); exact HO239.out) (Kd.R_base ho0) hb)
       have n1_ := am_ (Kd.R_lower (Kd.R_new' ho0 (Kd.R_lt (by (with_reducible repeat (first | apply ra_ | apply rn_ | apply rd_)); exact HO239.out))) (bz_ (by repeat (first | (with_reducible first | exact HB.out | apply ba_ | apply pw_below_drewN | apply bd_ | refine bs_ ?_ GE233.out | refine bs_ ?_ GE240.out) | exact HB.out))))
       have n2_ := am_ (kb_ (g := gb233) (o := .cells #[.slice none 0 0, .slice none 0 0, .slice none 0 0, .slice none 0 0] 38 (0, 0)) (by (with_reducible repeat (first | refine kn_ ?_ _ | refine kd_ ?_ | refine ka_ ?_ _)); exact BK233.out) hb)
       have n3_ := am_ (kb_ (g := gb240) (o := .cells #[.slice none 0 0, .slice none 0 0, .slice none 0 0, .slice none 0 0] 38 (0, 0)) (by (with_reducible repeat (first | refine kn_ ?_ _ | refine kd_ ?_ | refine ka_ ?_ _)); exact BK240.out) hb)
       have n4_ := am_ (bp_ (by repeat (first | (with_reducible first | exact HB.out | apply ba_ | apply pw_below_drewN | apply bd_ | refine bs_ ?_ GE233.out | refine bs_ ?_ GE240.out) | exact HB.out)) hb)
       clear HO239
       clear BK233
       clear BK240
       clear HB
       have HO239 := n0_
       have HO236 := n1_
       have BK233 := n2_
       have BK240 := n3_
       have HB := n4_
       clear n0_ n1_ n2_ n3_ n4_
       (try clear hb)
       (try clear hb2)
       (try clear hk)
       (try clear hi)
       (try clear ho0)
       obtain ⟨Ao14, co14, eo14⟩ := rs_ HO239.out
       (first | subst eo14 | (injection eo14 with f1_ f2_ f3_; have f4_ := f1_.symm; have f5_ := f3_.symm; clear f1_ f2_ f3_; subst f4_; subst f5_))
       obtain ⟨Ao15, co15, eo15⟩ := rs_ HO236.out
       (first | subst eo15 | (injection eo15 with f1_ f2_ f3_; have f4_ := f1_.symm; have f5_ := f3_.symm; clear f1_ f2_ f3_; subst f4_; subst f5_))
       refine hK.out _ _ trivial (fun hHeld => ?_)
       clear hK K
       refine norm_ (a' := ?_) ?_ ?_
       rotate_left
       ·
        show Act.put _ (some 9) _ = _
        simp only [Act.put, List.setIfInBounds_toArray, List.set_cons_zero, List.set_cons_succ, i64_w, i32_w]
        rfl
       refine pure_ (i := 5) (N := some 13) (v := ?_) (a' := ?_) #[true, true, true, true, true, true, true, false] rfl rfl (any_of HT_.out (by kernel_rfl)) (fun _ _ _ h => h) (Or.inl ⟨by rfl, ?_⟩) ?_ ?_
       rotate_left
       ·
        intro w'
        go_simp
        with_reducible rfl
       rotate_left
       ·
        simp only [Act.put, List.setIfInBounds_toArray, List.set_cons_zero, List.set_cons_succ, i64_w, i32_w]
        rfl
       exact norm_ (by first | (simp only [putAll, Act.put, List.setIfInBounds_toArray, List.set_cons_zero, List.set_cons_succ]; done) | (simp only [putAll, Act.put, List.setIfInBounds_toArray, List.set_cons_zero, List.set_cons_succ]; rfl)) (hJ1_4_6 (.slice Ao15 t234.length co15, .slice Ao14 y237.length co14, gb240) _ ⟨(by (with_reducible repeat (first | apply ra_ | apply rn_ | apply rd_)); exact rm_ HO236.out (fun _ hk => hk.2)), (by (with_reducible repeat (first | apply ra_ | apply rn_ | apply rd_)); exact rm_ HO239.out (fun _ hk => hk.2)), (by (with_reducible repeat (first | refine kn_ ?_ _ | refine kd_ ?_ | refine ka_ ?_ _)); exact BK233.out), (by (with_reducible repeat (first | refine kn_ ?_ _ | refine kd_ ?_ | refine ka_ ?_ _)); exact BK240.out), GW240.out, GE240.out, NB233_240.out, NB240_233.out, (by repeat (first | (with_reducible first | exact HB.out | apply ba_ | apply pw_below_drewN | apply bd_ | refine bs_ ?_ GE233.out | refine bs_ ?_ GE240.out) | exact HB.out))⟩)
     ·
      skip
      rintro ⟨v235, gb240⟩ w11 ⟨h0_, h1_, h2_, h3_, h4_, h5_, h6_, h7_⟩
      have n0_ : Aside0 (Kd.R (Kd.int .i64) 3 w11 w.heap.size (fun _ => True) v235 t234) := ⟨h0_⟩
      have n1_ : Aside0 (w11.heap[gb233]? = some (.cells #[.slice none 0 0, .slice none 0 0, .slice none 0 0, .slice none 0 0] 38 (0, 0))) := ⟨h1_⟩
      have n2_ : Aside0 (w11.heap[gb240]? = some (.cells #[.slice none 0 0, .slice none 0 0, .slice none 0 0, .slice none 0 0] 38 (0, 0))) := ⟨h2_⟩
      have n3_ : Aside0 (w.heap.size ≤ gb240) := ⟨h3_⟩
      have n4_ : Aside0 (w.heap.size ≤ gb240) := ⟨h4_⟩
      have n5_ : Aside0 (gb233 ≠ gb240) := ⟨h5_⟩
      have n6_ : Aside0 (gb240 ≠ gb233) := ⟨h6_⟩
      have n7_ : Aside0 (Below w.heap.size w w11) := ⟨h7_⟩
      clear BK233
      clear HB
      clear h0_ h1_ h2_ h3_ h4_ h5_ h6_ h7_
      have HO236 := n0_
      have BK233 := n1_
      have BK240 := n2_
      have GW240 := n3_
      have GE240 := n4_
      have NB233_240 := n5_
      have NB240_233 := n6_
      have HB := n7_
      clear n0_ n1_ n2_ n3_ n4_ n5_ n6_ n7_
      have hHeld := trivial
      refine norm_ (a' := ?_) ?_ ?_
      rotate_left
      ·
       simp only [putAll, Act.put, List.setIfInBounds_toArray, List.set_cons_zero, List.set_cons_succ]
       rfl
      refine one_ (i := 4) (N := some 12) #[true, true, true, true, true, false, true, false] rfl rfl (one_of HT_.out (by kernel_rfl)) (by decide) (fun K hK => ?_)
      refine Kd.R_make_step (Kd.int .i64) _ 3 (by rfl) (N := 12) rfl 22 _ _ rfl (l0.length : Int) rfl rfl Try.underlying22 (.int .i64 0) 8 info3 rfl (by decide) (by omega) 0 (ok := fun _ => True) (okp := fun _ => True) rfl (fun _ hk => hk) trivial (of_decide_eq_true (by first | (with_reducible assumption) | assumption)) (Nat.le_trans (Nat.mul_le_mul_right _ (of_decide_eq_true (by first | (with_reducible assumption) | assumption) : (l0.length : Int).toNat ≤ 35184372088832)) (by omega)) (Below.refl _ _) (Nat.le_refl _) ?_
      intro v238 w12 ho13 hb hg_ hnew_
      clear hg_ hnew_
      (first | rw [← Ny237.out] at ho13 | (simp only [Int.reduceToNat] at ho13; rw [← Ny237.out] at ho13))
      have n0_ := am_ (Kd.R_elder' (by (with_reducible repeat (first | apply ra_ | apply rn_ | apply rd_)); exact HO236.out) (Kd.R_base ho13) hb)
      have n1_ := am_ (Kd.R_lower (Kd.R_new' ho13 (Kd.R_lt (by (with_reducible repeat (first | apply ra_ | apply rn_ | apply rd_)); exact HO236.out))) (bz_ (by repeat (first | (with_reducible first | exact HB.out | apply ba_ | apply pw_below_drewN | apply bd_ | refine bs_ ?_ GE233.out | refine bs_ ?_ GE240.out) | exact HB.out))))
      have n2_ := am_ (kb_ (g := gb233) (o := .cells #[.slice none 0 0, .slice none 0 0, .slice none 0 0, .slice none 0 0] 38 (0, 0)) (by (with_reducible repeat (first | refine kn_ ?_ _ | refine kd_ ?_ | refine ka_ ?_ _)); exact BK233.out) hb)
      have n3_ := am_ (kb_ (g := gb240) (o := .cells #[.slice none 0 0, .slice none 0 0, .slice none 0 0, .slice none 0 0] 38 (0, 0)) (by (with_reducible repeat (first | refine kn_ ?_ _ | refine kd_ ?_ | refine ka_ ?_ _)); exact BK240.out) hb)
      have n4_ := am_ (bp_ (by repeat (first | (with_reducible first | exact HB.out | apply ba_ | apply pw_below_drewN | apply bd_ | refine bs_ ?_ GE233.out | refine bs_ ?_ GE240.out) | exact HB.out)) hb)
      clear HO236
      clear BK233
      clear BK240
      clear HB
      have HO236 := n0_
      have HO239 := n1_
      have BK233 := n2_
      have BK240 := n3_
      have HB := n4_
      clear n0_ n1_ n2_ n3_ n4_
      clear hb ho13
      obtain ⟨Ao14, co14, eo14⟩ := rs_ HO239.out
      (first | subst eo14 | (injection eo14 with f1_ f2_ f3_; have f4_ := f1_.symm; have f5_ := f3_.symm; clear f1_ f2_ f3_; subst f4_; subst f5_))
      obtain ⟨Ao15, co15, eo15⟩ := rs_ HO236.out
      (first | subst eo15 | (injection eo15 with f1_ f2_ f3_; have f4_ := f1_.symm; have f5_ := f3_.symm; clear f1_ f2_ f3_; subst f4_; subst f5_))
      refine hK.out _ _ trivial (fun hHeld => ?_)
      clear hK K
      refine norm_ (a' := ?_) ?_ ?_
      rotate_left
      ·
       show Act.put _ (some 12) _ = _
       simp only [Act.put, List.setIfInBounds_toArray, List.set_cons_zero, List.set_cons_succ, i64_w, i32_w]
       rfl
      refine pure_ (i := 5) (N := some 13) (v := ?_) (a' := ?_) #[true, true, true, true, true, true, true, false] rfl rfl (any_of HT_.out (by kernel_rfl)) (fun _ _ _ h => h) (Or.inl ⟨by rfl, ?_⟩) ?_ ?_
      rotate_left
      ·
       intro w'
       go_simp
       with_reducible rfl
      rotate_left
      ·
       simp only [Act.put, List.setIfInBounds_toArray, List.set_cons_zero, List.set_cons_succ, i64_w, i32_w]
       rfl
      exact norm_ (by first | (simp only [putAll, Act.put, List.setIfInBounds_toArray, List.set_cons_zero, List.set_cons_succ]; done) | (simp only [putAll, Act.put, List.setIfInBounds_toArray, List.set_cons_zero, List.set_cons_succ]; rfl)) (hJ1_4_6 (.slice Ao15 t234.length co15, .slice Ao14 y237.length co14, gb240) _ ⟨(by (with_reducible repeat (first | apply ra_ | apply rn_ | apply rd_)); exact rm_ HO236.out (fun _ hk => hk.2)), (by (with_reducible repeat (first | apply ra_ | apply rn_ | apply rd_)); exact rm_ HO239.out (fun _ hk => hk.2)), (by (with_reducible repeat (first | refine kn_ ?_ _ | refine kd_ ?_ | refine ka_ ?_ _)); exact BK233.out), (by (with_reducible repeat (first | refine kn_ ?_ _ | refine kd_ ?_ | refine ka_ ?_ _)); exact BK240.out), GW240.out, GE240.out, NB233_240.out, NB240_233.out, (by repeat (first | (with_reducible first | exact HB.out | apply ba_ | apply pw_below_drewN | apply bd_ | refine bs_ ?_ GE233.out | refine bs_ ?_ GE240.out) | exact HB.out))⟩)
    ·
     skip
     rintro ⟨v235, v238⟩ w14 ⟨h0_, h1_, h2_, h3_⟩
     have n0_ : Aside0 (Kd.R (Kd.int .i64) 3 w14 w.heap.size (fun k_ => some k_ ≠ (v238 : Value).ownBlock) v235 t234) := ⟨h0_⟩
     have n1_ : Aside0 (Kd.R (Kd.int .i64) 3 w14 w.heap.size (fun k_ => some k_ ≠ (v235 : Value).ownBlock) v238 y237) := ⟨h1_⟩
     have n2_ : Aside0 (w14.heap[gb233]? = some (.cells #[.slice none 0 0, .slice none 0 0, .slice none 0 0, .slice none 0 0] 38 (0, 0))) := ⟨h2_⟩
     have n3_ : Aside0 (Below w.heap.size w w14) := ⟨h3_⟩
     clear BK233
     clear HB
     clear h0_ h1_ h2_ h3_
     have HO236 := n0_
     have HO239 := n1_
     have BK233 := n2_
     have HB := n3_
     clear n0_ n1_ n2_ n3_
     have hHeld := trivial
     obtain ⟨Ao15, co15, eo15⟩ := rs_ HO239.out
     (first | subst eo15 | (injection eo15 with f1_ f2_ f3_; have f4_ := f1_.symm; have f5_ := f3_.symm; clear f1_ f2_ f3_; subst f4_; subst f5_))
     obtain ⟨Ao16, co16, eo16⟩ := rs_ HO236.out
     (first | subst eo16 | (injection eo16 with f1_ f2_ f3_; have f4_ := f1_.symm; have f5_ := f3_.symm; clear f1_ f2_ f3_; subst f4_; subst f5_))
     refine norm_ (a' := ?_) ?_ ?_
     rotate_left
     ·
      simp only [putAll, Act.put, List.setIfInBounds_toArray, List.set_cons_zero, List.set_cons_succ]
      rfl
     refine one_ (i := 6) (N := some 7) #[true, true, true, true, true, true, true, false] rfl rfl (one_of HT_.out (by kernel_rfl)) (by decide) (fun K hK => ?_)
     refine box_step ?hg (N := 7) ?hd (cs := #[.slice none 0 0, .slice none 0 0, .slice none 0 0, .slice none 0 0]) (t := 38) ?hr ?_; (case hd => rfl); (case hg => rfl); (case hr => first | (go_simp; done) | (go_simp; rfl))
     intro gb240 hg w17 hbox hb
     have n0_ := am_ (Kd.R_below (by (with_reducible repeat (first | apply ra_ | apply rn_ | apply rd_)); exact HO236.out) hb)
     have n1_ := am_ (Kd.R_below (by (with_reducible repeat (first | apply ra_ | apply rn_ | apply rd_)); exact HO239.out) hb)
     have n2_ := am_ (kb_ (g := gb233) (o := .cells #[.slice none 0 0, .slice none 0 0, .slice none 0 0, .slice none 0 0] 38 (0, 0)) (by (with_reducible repeat (first | refine kn_ ?_ _ | refine kd_ ?_ | refine ka_ ?_ _)); exact BK233.out) hb)
     have n3_ := am_ (bp_ (by repeat (first | (with_reducible first | exact HB.out | apply ba_ | apply pw_below_drewN | apply bd_ | refine bs_ ?_ GE233.out) | exact HB.out)) hb)
     have n4_ := am_ (hbox)
     have n5_ := am_ ((by rw [hg]; exact (bz_ (by repeat (first | (with_reducible first | exact HB.out | apply ba_ | apply pw_below_drewN | apply bd_ | refine bs_ ?_ GE233.out) | exact HB.out))) : w.heap.size ≤ gb240))
     have n6_ := am_ ((by rw [hg]; exact (bz_ (by repeat (first | (with_reducible first | exact HB.out | apply ba_ | apply pw_below_drewN | apply bd_ | refine bs_ ?_ GE233.out) | exact HB.out))) : w.heap.size ≤ gb240))
     have n7_ := am_ ((by rw [hg]; exact Nat.ne_of_lt (blk_lt (g := gb233) (o := .cells #[.slice none 0 0, .slice none 0 0, .slice none 0 0, .slice none 0 0] 38 (0, 0)) (by (with_reducible repeat (first | refine kn_ ?_ _ | refine kd_ ?_ | refine ka_ ?_ _)); exact BK233.out)) : gb233 ≠ gb240))
     have n8_ := am_ ((by rw [hg]; exact Nat.ne_of_gt (blk_lt (g := gb233) (o := .cells #[.slice none 0 0, .slice none 0 0, .slice none 0 0, .slice none 0 0] 38 (0, 0)) (by (with_reducible repeat (first | refine kn_ ?_ _ | refine kd_ ?_ | refine ka_ ?_ _)); exact BK233.out)) : gb240 ≠ gb233))
     clear HO236
     clear HO239
     clear BK233
     clear HB
     have HO236 := n0_
     have HO239 := n1_
     have BK233 := n2_
     have HB := n3_
     have BK240 := n4_
     have GW240 := n5_
     have GE240 := n6_
     have NB233_240 := n7_
     have NB240_233 := n8_
     clear n0_ n1_ n2_ n3_ n4_ n5_ n6_ n7_ n8_
     clear hb hbox hg
     refine hK.out _ _ trivial (fun hHeld => ?_)
     clear hK K
     refine norm_ (a' := ?_) ?_ ?_
     rotate_left
     ·
      show Act.put _ (some 7) _ = _
      simp only [Act.put, List.setIfInBounds_toArray, List.set_cons_zero, List.set_cons_succ, i64_w, i32_w]
      rfl
     exact norm_ (by first | (simp only [putAll, Act.put, List.setIfInBounds_toArray, List.set_cons_zero, List.set_cons_succ]; done) | (simp only [putAll, Act.put, List.setIfInBounds_toArray, List.set_cons_zero, List.set_cons_succ]; rfl)) (hJ1_4_6 (.slice Ao16 t234.length co16, .slice Ao15 y237.length co15, gb240) _ ⟨(by (with_reducible repeat (first | apply ra_ | apply rn_ | apply rd_)); exact HO236.out), (by (with_reducible repeat (first | apply ra_ | apply rn_ | apply rd_)); exact HO239.out), (by (with_reducible repeat (first | refine kn_ ?_ _ | refine kd_ ?_ | refine ka_ ?_ _)); exact BK233.out), (by (with_reducible repeat (first | refine kn_ ?_ _ | refine kd_ ?_ | refine ka_ ?_ _)); exact BK240.out), GW240.out, GE240.out, NB233_240.out, NB240_233.out, (by repeat (first | (with_reducible first | exact HB.out | apply ba_ | apply pw_below_drewN | apply bd_ | refine bs_ ?_ GE233.out | refine bs_ ?_ GE240.out) | exact HB.out))⟩)
   rintro ⟨v235, v238, gb240⟩ w15 ⟨h0_, h1_, h2_, h3_, h4_, h5_, h6_, h7_, h8_⟩
   have n0_ : Aside0 (Kd.R (Kd.int .i64) 3 w15 w.heap.size (fun k_ => some k_ ≠ (v238 : Value).ownBlock) v235 t234) := ⟨h0_⟩
   have n1_ : Aside0 (Kd.R (Kd.int .i64) 3 w15 w.heap.size (fun k_ => some k_ ≠ (v235 : Value).ownBlock) v238 y237) := ⟨h1_⟩
   have n2_ : Aside0 (w15.heap[gb233]? = some (.cells #[.slice none 0 0, .slice none 0 0, .slice none 0 0, .slice none 0 0] 38 (0, 0))) := ⟨h2_⟩
   have n3_ : Aside0 (w15.heap[gb240]? = some (.cells #[.slice none 0 0, .slice none 0 0, .slice none 0 0, .slice none 0 0] 38 (0, 0))) := ⟨h3_⟩
   have n4_ : Aside0 (w.heap.size ≤ gb240) := ⟨h4_⟩
   have n5_ : Aside0 (w.heap.size ≤ gb240) := ⟨h5_⟩
   have n6_ : Aside0 (gb233 ≠ gb240) := ⟨h6_⟩
   have n7_ : Aside0 (gb240 ≠ gb233) := ⟨h7_⟩
   have n8_ : Aside0 (Below w.heap.size w w15) := ⟨h8_⟩
   clear BK233
   clear HB
   clear h0_ h1_ h2_ h3_ h4_ h5_ h6_ h7_ h8_
   have HO236 := n0_
   have HO239 := n1_
   have BK233 := n2_
   have BK240 := n3_
   have GW240 := n4_
   have GE240 := n5_
   have NB233_240 := n6_
   have NB240_233 := n7_
   have HB := n8_
   clear n0_ n1_ n2_ n3_ n4_ n5_ n6_ n7_ n8_
   have hHeld := trivial
   obtain ⟨Ao16, co16, eo16⟩ := rs_ HO239.out
   (first | subst eo16 | (injection eo16 with f1_ f2_ f3_; have f4_ := f1_.symm; have f5_ := f3_.symm; clear f1_ f2_ f3_; subst f4_; subst f5_))
   obtain ⟨Ao17, co17, eo17⟩ := rs_ HO236.out
   (first | subst eo17 | (injection eo17 with f1_ f2_ f3_; have f4_ := f1_.symm; have f5_ := f3_.symm; clear f1_ f2_ f3_; subst f4_; subst f5_))
   refine norm_ (a' := ?_) ?_ ?_
   rotate_left
   ·
    simp only [putAll, Act.put, List.setIfInBounds_toArray, List.set_cons_zero, List.set_cons_succ]
    rfl
   refine one_ (i := 7) (N := none) #[true, true, true, true, true, true, true, true] rfl rfl (one_of HT_.out (by kernel_rfl)) (by decide) (fun K hK => ?_)
   have hs18 : w15.cell? ⟨gb240, 0, none⟩ = some (.slice none 0 0) := (kc_ BK240.out 0).trans rfl
   have hfs18 := kf_ BK240.out 0
   have hns18_0 := NB233_240.out
   have hms18_0 := NB240_233.out
   have hs19 : w15.cell? ⟨gb240, 1, none⟩ = some (.slice none 0 0) := (kc_ BK240.out 1).trans rfl
   have hfs19 := kf_ BK240.out 1
   have hns19_0 := NB233_240.out
   have hms19_0 := NB240_233.out
   have hs20 : w15.cell? ⟨gb240, 2, none⟩ = some (.slice none 0 0) := (kc_ BK240.out 2).trans rfl
   have hfs20 := kf_ BK240.out 2
   have hns20_0 := NB233_240.out
   have hms20_0 := NB240_233.out
   have hs21 : w15.cell? ⟨gb240, 3, none⟩ = some (.slice none 0 0) := (kc_ BK240.out 3).trans rfl
   have hfs21 := kf_ BK240.out 3
   have hns21_0 := NB233_240.out
   have hms21_0 := NB240_233.out
   refine skip_ (w1 := ?_) (by rfl) rfl ?_ ?_
   rotate_left
   ·
    go_simp
    rfl
   refine hK.out _ _ trivial (fun hHeld => ?_)
   clear hK K
   refine done_ (done_of HT_.out (by kernel_rfl)) ?_
   try go_wp2
   go_loopg [16] k (fun kq v16 w' => ∃ (x16_1 : Int) (x241001_1 : List Int) (x241003_1 : List Int) (u241001 : Value) (u241003 : Value), v16 = .int .i64 x16_1 ∧ Aside0 (impl_evenCase.l0 kq a1 a2 (l0.length : Int) x16_1 t234 x241001_1 y237 x241003_1 = some (r1, r2, r3, r4)) ∧ Aside0 (kq ≤ k) ∧ Aside0 (Kd.R (Kd.int .i64) 3 w' w.heap.size (fun k_ => some k_ ≠ (u241001 : Value).ownBlock ∧ some k_ ≠ ((.slice Ao16 y237.length co16) : Value).ownBlock ∧ some k_ ≠ (u241003 : Value).ownBlock) (.slice Ao17 t234.length co17) t234) ∧ Aside0 (Kd.R (Kd.int .i64) 3 w' w.heap.size (fun k_ => some k_ ≠ ((.slice Ao17 t234.length co17) : Value).ownBlock ∧ some k_ ≠ ((.slice Ao16 y237.length co16) : Value).ownBlock ∧ some k_ ≠ (u241003 : Value).ownBlock) u241001 x241001_1) ∧ Aside0 (Kd.R (Kd.int .i64) 3 w' w.heap.size (fun k_ => some k_ ≠ ((.slice Ao17 t234.length co17) : Value).ownBlock ∧ some k_ ≠ (u241001 : Value).ownBlock ∧ some k_ ≠ (u241003 : Value).ownBlock) (.slice Ao16 y237.length co16) y237) ∧ Aside0 (Kd.R (Kd.int .i64) 3 w' w.heap.size (fun k_ => some k_ ≠ ((.slice Ao17 t234.length co17) : Value).ownBlock ∧ some k_ ≠ (u241001 : Value).ownBlock ∧ some k_ ≠ ((.slice Ao16 y237.length co16) : Value).ownBlock) u241003 x241003_1) ∧ Aside0 (w'.heap[gb233]? = some (.cells #[(.slice none 0 0), (.slice none 0 0), (.slice none 0 0), (.slice none 0 0)] 38 (0, 0))) ∧ Aside0 (w'.heap[gb240]? = some (.cells #[(.slice Ao17 t234.length co17), u241001, (.slice Ao16 y237.length co16), u241003] 38 (0, 0))) ∧ Aside0 (Below w.heap.size w w'))
   case atStart => exact ⟨(0), (([] : List Int)), (([] : List Int)), (.slice none 0 0), (.slice none 0 0), (by first | rfl | (simp; done) | (simp [*]; done)), H', ⟨Nat.le_refl _⟩, ⟨by (with_reducible repeat (first | apply ra_ | apply rn_ | apply rd_)); exact rm_ (rf_ (p := ⟨gb240, 3, none⟩) (rf_ (p := ⟨gb240, 2, none⟩) (rf_ (p := ⟨gb240, 1, none⟩) (rf_ (p := ⟨gb240, 0, none⟩) (rt_ HO236.out BK240.out (by decide)) (fun _ hk => hk.2) (.slice Ao17 t234.length co17)) (fun _ hk => hk.2) (.slice none 0 0)) (fun _ hk => hk.2) (.slice Ao16 y237.length co16)) (fun _ hk => hk.2) (.slice none 0 0)) (fun _ hk => ⟨(by simp [Value.ownBlock]), ⟨hk.1, (by simp [Value.ownBlock])⟩⟩)⟩, ⟨by first | exact Kd.R_nil _ _ _ _ _ | exact Kd.N_nil _ _ _ _ _ | exact Kd.V_nil _ _ _ _ _ | exact Kd.Q_nil _ _ _ _ _ | exact Kd.S_nil _ _ _ _ _⟩, ⟨by (with_reducible repeat (first | apply ra_ | apply rn_ | apply rd_)); exact rm_ (rf_ (p := ⟨gb240, 3, none⟩) (rf_ (p := ⟨gb240, 2, none⟩) (rf_ (p := ⟨gb240, 1, none⟩) (rf_ (p := ⟨gb240, 0, none⟩) (rt_ HO239.out BK240.out (by decide)) (fun _ hk => hk.2) (.slice Ao17 t234.length co17)) (fun _ hk => hk.2) (.slice none 0 0)) (fun _ hk => hk.2) (.slice Ao16 y237.length co16)) (fun _ hk => hk.2) (.slice none 0 0)) (fun _ hk => ⟨hk.1, ⟨(by simp [Value.ownBlock]), (by simp [Value.ownBlock])⟩⟩)⟩, ⟨by first | exact Kd.R_nil _ _ _ _ _ | exact Kd.N_nil _ _ _ _ _ | exact Kd.V_nil _ _ _ _ _ | exact Kd.Q_nil _ _ _ _ _ | exact Kd.S_nil _ _ _ _ _⟩, ⟨by (with_reducible repeat (first | refine kn_ ?_ _ | refine kd_ ?_ | refine ka_ ?_ _)); refine blk_far ?_ NB233_240.out _; (with_reducible repeat (first | refine kn_ ?_ _ | refine kd_ ?_ | refine ka_ ?_ _)); refine blk_far ?_ NB233_240.out _; (with_reducible repeat (first | refine kn_ ?_ _ | refine kd_ ?_ | refine ka_ ?_ _)); refine blk_far ?_ NB233_240.out _; (with_reducible repeat (first | refine kn_ ?_ _ | refine kd_ ?_ | refine ka_ ?_ _)); refine blk_far ?_ NB233_240.out _; (with_reducible repeat (first | refine kn_ ?_ _ | refine kd_ ?_ | refine ka_ ?_ _)); exact BK233.out⟩, ⟨by (with_reducible repeat (first | refine kn_ ?_ _ | refine kd_ ?_ | refine ka_ ?_ _)); refine blk_put (cs := #[.slice Ao17 t234.length co17, .slice none 0 0, .slice Ao16 y237.length co16, .slice none 0 0]) ?_ 3 _ rfl; (with_reducible repeat (first | refine kn_ ?_ _ | refine kd_ ?_ | refine ka_ ?_ _)); refine blk_put (cs := #[.slice Ao17 t234.length co17, .slice none 0 0, .slice none 0 0, .slice none 0 0]) ?_ 2 _ rfl; (with_reducible repeat (first | refine kn_ ?_ _ | refine kd_ ?_ | refine ka_ ?_ _)); refine blk_put (cs := #[.slice Ao17 t234.length co17, .slice none 0 0, .slice none 0 0, .slice none 0 0]) ?_ 1 _ rfl; (with_reducible repeat (first | refine kn_ ?_ _ | refine kd_ ?_ | refine ka_ ?_ _)); refine blk_put (cs := #[.slice none 0 0, .slice none 0 0, .slice none 0 0, .slice none 0 0]) ?_ 0 _ rfl; (with_reducible repeat (first | refine kn_ ?_ _ | refine kd_ ?_ | refine ka_ ?_ _)); exact BK240.out⟩, ⟨by repeat (first | (with_reducible first | exact HB.out | apply ba_ | apply pw_below_drewN | apply bd_ | refine bs_ ?_ GE233.out | refine bs_ ?_ GE240.out) | exact HB.out)⟩⟩
   case round =>
    clear H'
    try clear p2
    try clear c5
    obtain ⟨x16_1, x241001_1, x241003_1, u241001, u241003, rfl, HA, HK1, HO_241000, HO_241001, HO_241002, HO_241003, BK233, BK240, HB⟩ := hrel
    cases gk with
    | zero => exact absurd HA.out (by simp [impl_evenCase.l0])
    | succ k1 =>
     have H := HA.out
     clear HA
     simp only [impl_evenCase.l0] at H
     by_cases c22 : x16_1 < (l0.length : Int)
     ·
      rw [if_pos c22] at H
      have c22b0 : decide (x16_1 < (l0.length : Int)) = true := decide_eq_true c22
      clear c22
      obtain ⟨y241, hy241⟩ : ∃ y_ : List Int, y_ = (([a1] : List Int)) := ⟨_, rfl⟩
      replace H : (if x241001_1.length + y241.length < 17592186044416 then ((some (([a2] : List Int) : List Int)).bind fun y247 => (if x241003_1.length + y247.length < 17592186044416 then (impl_evenCase.l0 k1 a1 a2 (l0.length : Int) (wrap64 (x16_1 + 1)) t234 (x241001_1 ++ y241) y237 (x241003_1 ++ y247)) else (none))) else (none)) = some (r1, r2, r3, r4) := by first | (rw [hy241]; with_reducible exact H) | (have H2_ := (Option.bind_some _ _).symm.trans H; rw [hy241]; with_reducible exact H2_) | (have H2_ := (Option.bind_some _ _).symm.trans H; with_reducible exact H2_) | with_reducible exact H | (rw [hy241]; exact H) | exact H
      have Ny241 := am_ hy241
      clear hy241
      by_cases c23 : x241001_1.length + y241.length < 17592186044416
      ·
       rw [if_pos c23] at H
       have LMc23 := am_ c23
       clear c23
       obtain ⟨y244, hy244⟩ : ∃ y_ : List Int, y_ = (x241001_1 ++ y241) := ⟨_, rfl⟩
       replace H : ((some (([a2] : List Int) : List Int)).bind fun y247 => (if x241003_1.length + y247.length < 17592186044416 then (impl_evenCase.l0 k1 a1 a2 (l0.length : Int) (wrap64 (x16_1 + 1)) t234 y244 y237 (x241003_1 ++ y247)) else (none))) = some (r1, r2, r3, r4) := by first | (rw [hy244]; with_reducible exact H) | (have H2_ := (Option.bind_some _ _).symm.trans H; rw [hy244]; with_reducible exact H2_) | (have H2_ := (Option.bind_some _ _).symm.trans H; with_reducible exact H2_) | with_reducible exact H | (rw [hy244]; exact H) | exact H
       have Ny244 := am_ hy244
       clear hy244
       obtain ⟨y247, hy247⟩ : ∃ y_ : List Int, y_ = (([a2] : List Int)) := ⟨_, rfl⟩
       replace H : (if x241003_1.length + y247.length < 17592186044416 then (impl_evenCase.l0 k1 a1 a2 (l0.length : Int) (wrap64 (x16_1 + 1)) t234 y244 y237 (x241003_1 ++ y247)) else (none)) = some (r1, r2, r3, r4) := by first | (rw [hy247]; with_reducible exact H) | (have H2_ := (Option.bind_some _ _).symm.trans H; rw [hy247]; with_reducible exact H2_) | (have H2_ := (Option.bind_some _ _).symm.trans H; with_reducible exact H2_) | with_reducible exact H | (rw [hy247]; exact H) | exact H
       have Ny247 := am_ hy247
       clear hy247
       by_cases c24 : x241003_1.length + y247.length < 17592186044416
       ·
        rw [if_pos c24] at H
        have LMc24 := am_ c24
        clear c24
        obtain ⟨y250, hy250⟩ : ∃ y_ : List Int, y_ = (x241003_1 ++ y247) := ⟨_, rfl⟩
        replace H : (impl_evenCase.l0 k1 a1 a2 (l0.length : Int) (wrap64 (x16_1 + 1)) t234 y244 y237 y250) = some (r1, r2, r3, r4) := by first | (rw [hy250]; with_reducible exact H) | (have H2_ := (Option.bind_some _ _).symm.trans H; rw [hy250]; with_reducible exact H2_) | (have H2_ := (Option.bind_some _ _).symm.trans H; with_reducible exact H2_) | with_reducible exact H | (rw [hy250]; exact H) | exact H
        have Ny250 := am_ hy250
        clear hy250
        have H' := am_ H
        clear H
        obtain ⟨Ao25, co25, eo25⟩ := rs_ HO_241001.out
        subst eo25
        obtain ⟨Ao26, co26, eo26⟩ := rs_ HO_241003.out
        subst eo26
        try go_wp2
        have n0_ := am_ (rd_ HO_241000.out)
        have n1_ := am_ (rd_ HO_241001.out)
        have n2_ := am_ (rd_ HO_241002.out)
        have n3_ := am_ (rd_ HO_241003.out)
        have n4_ := am_ (kd_ BK233.out)
        have n5_ := am_ (kd_ BK240.out)
        have n6_ := am_ (bd_ HB.out)
        clear HO_241000
        clear HO_241001
        clear HO_241002
        clear HO_241003
        clear BK233
        clear BK240
        clear HB
        have HO_241000 := n0_
        have HO_241001 := n1_
        have HO_241002 := n2_
        have HO_241003 := n3_
        have BK233 := n4_
        have BK240 := n5_
        have HB := n6_
        clear n0_ n1_ n2_ n3_ n4_ n5_ n6_
        refine start_ (n := 14) (S := fun w' => w'.cell? ⟨gb240, 0, none⟩ = some (.slice Ao17 t234.length co17) ∧ w'.cell? ⟨gb240, 1, none⟩ = some (.slice Ao25 x241001_1.length co25) ∧ w'.cell? ⟨gb240, 2, none⟩ = some (.slice Ao16 y237.length co16) ∧ w'.cell? ⟨gb240, 3, none⟩ = some (.slice Ao26 x241003_1.length co26)) (ds := [11, 13]) #[false, false, false, false, false, false, false, false, false, false, false, false, false, false] (by kernel_rfl) rfl rfl ⟨(kc_ BK240.out 0).trans rfl, (kc_ BK240.out 1).trans rfl, (kc_ BK240.out 2).trans rfl, (kc_ BK240.out 3).trans rfl⟩ (fun hHeld => ?_); refine with_tabW impl_evenCase.tab4 impl_evenCase.bits4 (fun HT_ HW_ => ?_)
        generalize wr.drew = w27 at HO_241000 HO_241001 HO_241002 HO_241003 BK233 BK240 HB hHeld ⊢
        refine pure_ (i := 0) (N := some 18) (v := ?_) (a' := ?_) #[true, false, false, false, false, false, false, false, false, false, false, false, false, false] rfl rfl (any_of HT_.out (by kernel_rfl)) (fun _ _ _ h => h) (Or.inl ⟨by rfl, ?_⟩) ?_ ?_
        rotate_left
        ·
         intro w'
         go_simp
         with_reducible rfl
        rotate_left
        ·
         simp only [Act.put, List.setIfInBounds_toArray, List.set_cons_zero, List.set_cons_succ, i64_w, i32_w]
         rfl
        refine pure_ (i := 2) (N := some 20) (v := ?_) (a' := ?_) #[true, false, true, false, false, false, false, false, false, false, false, false, false, false] rfl rfl (any_of HT_.out (by kernel_rfl)) (fun _ _ _ h => h) (Or.inl ⟨by rfl, ?_⟩) ?_ ?_
        rotate_left
        ·
         intro w'
         go_simp
         with_reducible rfl
        rotate_left
        ·
         simp only [Act.put, List.setIfInBounds_toArray, List.set_cons_zero, List.set_cons_succ, i64_w, i32_w]
         rfl
        refine pure_ (i := 5) (N := some 23) (v := ?_) (a' := ?_) #[true, false, true, false, false, true, false, false, false, false, false, false, false, false] rfl rfl (any_of HT_.out (by kernel_rfl)) (fun _ _ _ h => h) (Or.inl ⟨by rfl, ?_⟩) ?_ ?_
        rotate_left
        ·
         intro w'
         go_simp
         with_reducible rfl
        rotate_left
        ·
         simp only [Act.put, List.setIfInBounds_toArray, List.set_cons_zero, List.set_cons_succ, i64_w, i32_w]
         rfl
        refine pure_ (i := 7) (N := some 25) (v := ?_) (a' := ?_) #[true, false, true, false, false, true, false, true, false, false, false, false, false, false] rfl rfl (any_of HT_.out (by kernel_rfl)) (fun _ _ _ h => h) (Or.inl ⟨by rfl, ?_⟩) ?_ ?_
        rotate_left
        ·
         intro w'
         go_simp
         with_reducible rfl
        rotate_left
        ·
         simp only [Act.put, List.setIfInBounds_toArray, List.set_cons_zero, List.set_cons_succ, i64_w, i32_w]
         rfl
        refine take_ (i := 1) (N := some 19) (v := ?_) (a' := ?_) #[true, true, true, false, false, true, false, true, false, false, false, false, false, false] rfl rfl (take_ofW HT_.out HW_.out (by kernel_rfl)) (fun _ _ _ h => h) (Or.inl ⟨by rfl, ?_⟩) hHeld ?_ ?_
        rotate_left
        ·
         rintro w' ⟨s0, s1, s2, s3⟩
         go_simp
         with_reducible rfl
        rotate_left
        ·
         simp only [Act.put, List.setIfInBounds_toArray, List.set_cons_zero, List.set_cons_succ, i64_w, i32_w]
         rfl
        refine take_ (i := 6) (N := some 24) (v := ?_) (a' := ?_) #[true, true, true, false, false, true, true, true, false, false, false, false, false, false] rfl rfl (take_ofW HT_.out HW_.out (by kernel_rfl)) (fun _ _ _ h => h) (Or.inl ⟨by rfl, ?_⟩) hHeld ?_ ?_
        rotate_left
        ·
         rintro w' ⟨s0, s1, s2, s3⟩
         go_simp
         with_reducible rfl
        rotate_left
        ·
         simp only [Act.put, List.setIfInBounds_toArray, List.set_cons_zero, List.set_cons_succ, i64_w, i32_w]
         rfl
        refine join_ (σ := Value × Value × Value) 4 #[true, true, true, true, true, true, true, true, true, false, true, false, false, false] (fun s_ => [(21, s_.1), (22, s_.2.1), (26, s_.2.2), (28, .pointer (some ⟨gb240, 1, none⟩))]) (fun s_ w' => (w'.cell? ⟨gb240, 0, none⟩ = some (.slice Ao17 t234.length co17) ∧ w'.cell? ⟨gb240, 1, none⟩ = some (.slice Ao25 x241001_1.length co25) ∧ w'.cell? ⟨gb240, 2, none⟩ = some (.slice Ao16 y237.length co16) ∧ w'.cell? ⟨gb240, 3, none⟩ = some (.slice Ao26 x241003_1.length co26)) ∧ (Kd.R (Kd.int .i64) 3 w' w.heap.size (fun k_ => some k_ ≠ (s_.2.1 : Value).ownBlock ∧ some k_ ≠ (s_.2.2 : Value).ownBlock ∧ some k_ ≠ (.slice Ao17 t234.length co17 : Value).ownBlock ∧ some k_ ≠ (.slice Ao16 y237.length co16 : Value).ownBlock ∧ some k_ ≠ (.slice Ao26 x241003_1.length co26 : Value).ownBlock) s_.1 y241) ∧ (Kd.R (Kd.int .i64) 3 w' w.heap.size (fun k_ => some k_ ≠ (s_.1 : Value).ownBlock ∧ some k_ ≠ (s_.2.2 : Value).ownBlock ∧ some k_ ≠ (.slice Ao17 t234.length co17 : Value).ownBlock ∧ some k_ ≠ (.slice Ao16 y237.length co16 : Value).ownBlock ∧ some k_ ≠ (.slice Ao26 x241003_1.length co26 : Value).ownBlock) s_.2.1 y244) ∧ (Kd.R (Kd.int .i64) 3 w' w.heap.size (fun k_ => some k_ ≠ (s_.1 : Value).ownBlock ∧ some k_ ≠ (s_.2.1 : Value).ownBlock ∧ some k_ ≠ (.slice Ao17 t234.length co17 : Value).ownBlock ∧ some k_ ≠ (.slice Ao16 y237.length co16 : Value).ownBlock ∧ some k_ ≠ (.slice Ao26 x241003_1.length co26 : Value).ownBlock) s_.2.2 y247) ∧ (Kd.R (Kd.int .i64) 3 w' w.heap.size (fun k_ => some k_ ≠ (s_.1 : Value).ownBlock ∧ some k_ ≠ (s_.2.1 : Value).ownBlock ∧ some k_ ≠ (s_.2.2 : Value).ownBlock ∧ some k_ ≠ (.slice Ao16 y237.length co16 : Value).ownBlock ∧ some k_ ≠ (.slice Ao26 x241003_1.length co26 : Value).ownBlock) (.slice Ao17 t234.length co17) t234) ∧ (Kd.R (Kd.int .i64) 3 w' w.heap.size (fun k_ => some k_ ≠ (s_.1 : Value).ownBlock ∧ some k_ ≠ (s_.2.1 : Value).ownBlock ∧ some k_ ≠ (s_.2.2 : Value).ownBlock ∧ some k_ ≠ (.slice Ao17 t234.length co17 : Value).ownBlock ∧ some k_ ≠ (.slice Ao26 x241003_1.length co26 : Value).ownBlock) (.slice Ao16 y237.length co16) y237) ∧ (Kd.R (Kd.int .i64) 3 w' w.heap.size (fun k_ => some k_ ≠ (s_.1 : Value).ownBlock ∧ some k_ ≠ (s_.2.1 : Value).ownBlock ∧ some k_ ≠ (s_.2.2 : Value).ownBlock ∧ some k_ ≠ (.slice Ao17 t234.length co17 : Value).ownBlock ∧ some k_ ≠ (.slice Ao16 y237.length co16 : Value).ownBlock) (.slice Ao26 x241003_1.length co26) x241003_1) ∧ (w'.heap[gb233]? = some (.cells #[.slice none 0 0, .slice none 0 0, .slice none 0 0, .slice none 0 0] 38 (0, 0))) ∧ (w'.heap[gb240]? = some (.cells #[.slice Ao17 t234.length co17, .slice Ao25 x241001_1.length co25, .slice Ao16 y237.length co16, .slice Ao26 x241003_1.length co26] 38 (0, 0))) ∧ (Below w.heap.size w w')) ?_ ?_
        rotate_left
        ·
         intro hCont
         refine two_ (i := 3) (j := 8) (Ni := some 21) (Nj := some 26) #[true, true, true, true, false, true, true, true, false, false, false, false, false, false] #[true, true, true, false, false, true, true, true, true, false, false, false, false, false] rfl rfl rfl rfl (two_of HT_.out (by kernel_rfl)) (by decide) (by decide) (fun K hK => ?_) (fun K hK => ?_)
         ·
          skip
          refine Kd.R_lit_step (Kd.int .i64) _ 3 ?hg (N := 21) ?hd (xs := ([a1] : List Int)) (inner := [.int .i64 a1]) (ok := fun _ => True) (okp := fun _ => True) ?hr ?hp (fun _ hk => hk) trivial (Below.refl _ _) (Nat.le_refl _) (by simp) ?_; (case hd => rfl); (case hg => rfl); (case hr => first | (go_simp; done) | (go_simp; rfl)); (case hp => exact (Reps.one (show Kd.M (Kd.int .i64) _ _ _ a1 [.int .i64 a1] from rfl) (Reps.none _ _)))
          intro v242 w28 ho29 hb hg_ hnew_
          clear hg_ hnew_
          (first | rw [← Ny241.out] at ho29 | (simp only [Int.reduceToNat] at ho29; rw [← Ny241.out] at ho29))
          have n0_ := am_ (Kd.R_elder' (by (with_reducible repeat (first | apply ra_ | apply rn_ | apply rd_)); exact HO_241000.out) (Kd.R_base ho29) hb)
          have n1_ := am_ (Kd.R_elder' (by (with_reducible repeat (first | apply ra_ | apply rn_ | apply rd_)); exact HO_241001.out) (Kd.R_base ho29) hb)
          have n2_ := am_ (Kd.R_elder' (by (with_reducible repeat (first | apply ra_ | apply rn_ | apply rd_)); exact HO_241002.out) (Kd.R_base ho29) hb)
          have n3_ := am_ (Kd.R_elder' (by (with_reducible repeat (first | apply ra_ | apply rn_ | apply rd_)); exact HO_241003.out) (Kd.R_base ho29) hb)
          have n4_ := am_ (Kd.R_lower (Kd.R_new' (Kd.R_new' (Kd.R_new' (Kd.R_new' ho29 (Kd.R_lt (by (with_reducible repeat (first | apply ra_ | apply rn_ | apply rd_)); exact HO_241000.out))) (Kd.R_lt (by (with_reducible repeat (first | apply ra_ | apply rn_ | apply rd_)); exact HO_241001.out))) (Kd.R_lt (by (with_reducible repeat (first | apply ra_ | apply rn_ | apply rd_)); exact HO_241002.out))) (Kd.R_lt (by (with_reducible repeat (first | apply ra_ | apply rn_ | apply rd_)); exact HO_241003.out))) (bz_ (by repeat (first | (with_reducible first | exact HB.out | apply ba_ | apply pw_below_drewN | apply bd_ | refine bs_ ?_ GE233.out | refine bs_ ?_ GE240.out) | exact HB.out))))
          have n5_ := am_ (kb_ (g := gb233) (o := .cells #[.slice none 0 0, .slice none 0 0, .slice none 0 0, .slice none 0 0] 38 (0, 0)) (by (with_reducible repeat (first | refine kn_ ?_ _ | refine kd_ ?_ | refine ka_ ?_ _)); exact BK233.out) hb)
          have n6_ := am_ (kb_ (g := gb240) (o := .cells #[.slice Ao17 t234.length co17, .slice Ao25 x241001_1.length co25, .slice Ao16 y237.length co16, .slice Ao26 x241003_1.length co26] 38 (0, 0)) (by (with_reducible repeat (first | refine kn_ ?_ _ | refine kd_ ?_ | refine ka_ ?_ _)); exact BK240.out) hb)
          have n7_ := am_ (bp_ (by repeat (first | (with_reducible first | exact HB.out | apply ba_ | apply pw_below_drewN | apply bd_ | refine bs_ ?_ GE233.out | refine bs_ ?_ GE240.out) | exact HB.out)) hb)
          clear HO_241000
          clear HO_241001
          clear HO_241002
          clear HO_241003
          clear BK233
          clear BK240
          clear HB
          have HO_241000 := n0_
          have HO_241001 := n1_
          have HO_241002 := n2_
          have HO_241003 := n3_
          have HO243 := n4_
          have BK233 := n5_
          have BK240 := n6_
          have HB := n7_
          clear n0_ n1_ n2_ n3_ n4_ n5_ n6_ n7_
          clear hb ho29
          obtain ⟨Ao31, co31, eo31⟩ := rs_ HO243.out
          (first | subst eo31 | (injection eo31 with f1_ f2_ f3_; have f4_ := f1_.symm; have f5_ := f3_.symm; clear f1_ f2_ f3_; subst f4_; subst f5_))
          refine hK.out _ _ ⟨(kc_ BK240.out 0).trans rfl, (kc_ BK240.out 1).trans rfl, (kc_ BK240.out 2).trans rfl, (kc_ BK240.out 3).trans rfl⟩ (fun hHeld => ?_)
          clear hK K
          refine norm_ (a' := ?_) ?_ ?_
          rotate_left
          ·
           show Act.put _ (some 21) _ = _
           simp only [Act.put, List.setIfInBounds_toArray, List.set_cons_zero, List.set_cons_succ, i64_w, i32_w]
           rfl
          refine two_ (i := 4) (j := 8) (Ni := some 22) (Nj := some 26) #[true, true, true, true, true, true, true, true, false, false, false, false, false, false] #[true, true, true, true, false, true, true, true, true, false, false, false, false, false] rfl rfl rfl rfl (two_of HT_.out (by kernel_rfl)) (by decide) (by decide) (fun K hK => ?_) (fun K hK => ?_)
          ·
           skip
           refine Kd.R_append_rows_step (Kd.int .i64) (w0 := w) w.heap.size (by rfl) (.tmp 19) (.tmp 21) 22 3 (.int .i64 0) 8 rfl Try.underlying22 info3 rfl (by decide) (by omega) (.slice Ao25 x241001_1.length co25) x241001_1 y241 _ _ _ (fun k_ => some k_ ≠ (.slice Ao17 t234.length co17 : Value).ownBlock ∧ some k_ ≠ (.slice Ao16 y237.length co16 : Value).ownBlock ∧ some k_ ≠ (.slice Ao26 x241003_1.length co26 : Value).ownBlock ∧ some k_ ≠ (.slice Ao31 y241.length co31 : Value).ownBlock) (fun _ => False) rfl rfl ?aO ?aR (fun _ _ h => h) (fun _ h => h.elim) ?aF ?aB ?aS ?aL ?_
           (case aR => repeat (first | exact (Kd.R_reads' HO243.out).2.2 | (with_reducible refine ca_ ?_ _) | (with_reducible refine cn_ ?_ _) | (with_reducible refine cd_ ?_)))
           (case aB => exact (by repeat (first | (with_reducible first | exact HB.out | apply ba_ | apply pw_below_drewN | apply bd_ | refine bs_ ?_ GE233.out | refine bs_ ?_ GE240.out) | exact HB.out)))
           (case aF => exact (fun k_ hk => ⟨Kd.fresh' (Kd.R_lt (by (with_reducible repeat (first | apply ra_ | apply rn_ | apply rd_)); exact HO_241000.out)) k_ hk, Kd.fresh' (Kd.R_lt (by (with_reducible repeat (first | apply ra_ | apply rn_ | apply rd_)); exact HO_241002.out)) k_ hk, Kd.fresh' (Kd.R_lt (by (with_reducible repeat (first | apply ra_ | apply rn_ | apply rd_)); exact HO_241003.out)) k_ hk, Kd.fresh' (Kd.R_lt (by (with_reducible repeat (first | apply ra_ | apply rn_ | apply rd_)); exact HO243.out)) k_ hk⟩))
           (case aO => exact (by (with_reducible repeat (first | apply ra_ | apply rn_ | apply rd_)); exact rm_ HO_241001.out (fun _ hk => ⟨hk.1.1, ⟨hk.1.2.1, ⟨hk.1.2.2, hk.2⟩⟩⟩)))
           (case aS => exact (bz_ (by repeat (first | (with_reducible first | exact HB.out | apply ba_ | apply pw_below_drewN | apply bd_ | refine bs_ ?_ GE233.out | refine bs_ ?_ GE240.out) | exact HB.out))))
           (case aL => have := LMc23.out; omega)
           intro v245 w30 ho hb hg hat
           rw [← Ny244.out] at ho
           have n0_ := am_ (Kd.R_after (ok := (fun k_ => some k_ ≠ (.slice Ao16 y237.length co16 : Value).ownBlock ∧ some k_ ≠ (.slice Ao26 x241003_1.length co26 : Value).ownBlock ∧ some k_ ≠ (.slice Ao31 y241.length co31 : Value).ownBlock)) (by (with_reducible repeat (first | apply ra_ | apply rn_ | apply rd_)); exact rm_ HO_241000.out (fun _ hk => ⟨⟨hk.1.2.1, ⟨hk.1.2.2, hk.2⟩⟩, hk.1.1⟩)) hg hat)
           have n1_ := am_ (Kd.R_after (ok := (fun k_ => some k_ ≠ (.slice Ao17 t234.length co17 : Value).ownBlock ∧ some k_ ≠ (.slice Ao26 x241003_1.length co26 : Value).ownBlock ∧ some k_ ≠ (.slice Ao31 y241.length co31 : Value).ownBlock)) (by (with_reducible repeat (first | apply ra_ | apply rn_ | apply rd_)); exact rm_ HO_241002.out (fun _ hk => ⟨⟨hk.1.1, ⟨hk.1.2.2, hk.2⟩⟩, hk.1.2.1⟩)) hg hat)
           have n2_ := am_ (Kd.R_after (ok := (fun k_ => some k_ ≠ (.slice Ao17 t234.length co17 : Value).ownBlock ∧ some k_ ≠ (.slice Ao16 y237.length co16 : Value).ownBlock ∧ some k_ ≠ (.slice Ao31 y241.length co31 : Value).ownBlock)) (by (with_reducible repeat (first | apply ra_ | apply rn_ | apply rd_)); exact rm_ HO_241003.out (fun _ hk => ⟨⟨hk.1.1, ⟨hk.1.2.2, hk.2⟩⟩, hk.1.2.1⟩)) hg hat)
           have n3_ := am_ (blk_grown (g := gb233) (o := .cells #[.slice none 0 0, .slice none 0 0, .slice none 0 0, .slice none 0 0] 38 (0, 0)) (by (with_reducible repeat (first | refine kn_ ?_ _ | refine kd_ ?_ | refine ka_ ?_ _)); exact BK233.out) hg (Kd.R_ne HO_241001.out BK233.out (by decide)))
           have n4_ := am_ (blk_grown (g := gb240) (o := .cells #[.slice Ao17 t234.length co17, .slice Ao25 x241001_1.length co25, .slice Ao16 y237.length co16, .slice Ao26 x241003_1.length co26] 38 (0, 0)) (by (with_reducible repeat (first | refine kn_ ?_ _ | refine kd_ ?_ | refine ka_ ?_ _)); exact BK240.out) hg (Kd.R_ne HO_241001.out BK240.out (by decide)))
           have n5_ := am_ (Kd.R_after (ok := (fun k_ => some k_ ≠ (.slice Ao17 t234.length co17 : Value).ownBlock ∧ some k_ ≠ (.slice Ao16 y237.length co16 : Value).ownBlock ∧ some k_ ≠ (.slice Ao26 x241003_1.length co26 : Value).ownBlock)) (by (with_reducible repeat (first | apply ra_ | apply rn_ | apply rd_)); exact rm_ HO243.out (fun _ hk => ⟨⟨hk.1.1.1.2, ⟨hk.1.2, hk.2⟩⟩, hk.1.1.2⟩)) hg hat)
           have n6_ := am_ (hb)
           have n7_ := am_ (ho)
           clear HO_241000
           clear HO_241002
           clear HO_241003
           clear BK233
           clear BK240
           clear HO243
           clear HB
           clear HO_241001
           have HO_241000 := n0_
           have HO_241002 := n1_
           have HO_241003 := n2_
           have BK233 := n3_
           have BK240 := n4_
           have HO243 := n5_
           have HB := n6_
           have HO246 := n7_
           clear n0_ n1_ n2_ n3_ n4_ n5_ n6_ n7_
           clear ho hb hg hat
           refine hK.out _ _ ⟨(kc_ BK240.out 0).trans rfl, (kc_ BK240.out 1).trans rfl, (kc_ BK240.out 2).trans rfl, (kc_ BK240.out 3).trans rfl⟩ (fun hHeld => ?_)
           clear hK K
           refine norm_ (a' := ?_) ?_ ?_
           rotate_left
           ·
            show Act.put _ (some 22) _ = _
            simp only [Act.put, List.setIfInBounds_toArray, List.set_cons_zero, List.set_cons_succ, i64_w, i32_w]
            rfl
           refine pure_ (i := 10) (N := some 28) (v := ?_) (a' := ?_) #[true, true, true, true, true, true, true, true, false, false, true, false, false, false] rfl rfl (any_of HT_.out (by kernel_rfl)) (fun _ _ _ h => h) (Or.inl ⟨by rfl, ?_⟩) ?_ ?_
           rotate_left
           ·
            intro w'
            go_simp
            with_reducible rfl
           rotate_left
           ·
            simp only [Act.put, List.setIfInBounds_toArray, List.set_cons_zero, List.set_cons_succ, i64_w, i32_w]
            rfl
           refine one_ (i := 8) (N := some 26) #[true, true, true, true, true, true, true, true, true, false, true, false, false, false] rfl rfl (one_of HT_.out (by kernel_rfl)) (by decide) (fun K hK => ?_)
           refine Kd.R_lit_step (Kd.int .i64) _ 3 ?hg (N := 26) ?hd (xs := ([a2] : List Int)) (inner := [.int .i64 a2]) (ok := fun _ => True) (okp := fun _ => True) ?hr ?hp (fun _ hk => hk) trivial (Below.refl _ _) (Nat.le_refl _) (by simp) ?_; (case hd => rfl); (case hg => rfl); (case hr => first | (go_simp; done) | (go_simp; rfl)); (case hp => exact (Reps.one (show Kd.M (Kd.int .i64) _ _ _ a2 [.int .i64 a2] from rfl) (Reps.none _ _)))
           intro v248 w32 ho33 hb hg_ hnew_
           clear hg_ hnew_
           (first | rw [← Ny247.out] at ho33 | (simp only [Int.reduceToNat] at ho33; rw [← Ny247.out] at ho33))
           have n0_ := am_ (Kd.R_elder' (by (with_reducible repeat (first | apply ra_ | apply rn_ | apply rd_)); exact HO_241000.out) (Kd.R_base ho33) hb)
           have n1_ := am_ (Kd.R_elder' (by (with_reducible repeat (first | apply ra_ | apply rn_ | apply rd_)); exact HO_241002.out) (Kd.R_base ho33) hb)
           have n2_ := am_ (Kd.R_elder' (by (with_reducible repeat (first | apply ra_ | apply rn_ | apply rd_)); exact HO_241003.out) (Kd.R_base ho33) hb)
           have n3_ := am_ (Kd.R_elder' (by (with_reducible repeat (first | apply ra_ | apply rn_ | apply rd_)); exact HO243.out) (Kd.R_base ho33) hb)
           have n4_ := am_ (Kd.R_elder' (by (with_reducible repeat (first | apply ra_ | apply rn_ | apply rd_)); exact HO246.out) (Kd.R_base ho33) hb)
           have n5_ := am_ (Kd.R_lower (Kd.R_new' (Kd.R_new' (Kd.R_new' (Kd.R_new' (Kd.R_new' ho33 (Kd.R_lt (by (with_reducible repeat (first | apply ra_ | apply rn_ | apply rd_)); exact HO_241000.out))) (Kd.R_lt (by (with_reducible repeat (first | apply ra_ | apply rn_ | apply rd_)); exact HO_241002.out))) (Kd.R_lt (by (with_reducible repeat (first | apply ra_ | apply rn_ | apply rd_)); exact HO_241003.out))) (Kd.R_lt (by (with_reducible repeat (first | apply ra_ | apply rn_ | apply rd_)); exact HO243.out))) (Kd.R_lt (by (with_reducible repeat (first | apply ra_ | apply rn_ | apply rd_)); exact HO246.out))) (bz_ (by repeat (first | (with_reducible first | exact HB.out | apply ba_ | apply pw_below_drewN | apply bd_ | refine bs_ ?_ GE233.out | refine bs_ ?_ GE240.out) | exact HB.out))))
           have n6_ := am_ (kb_ (g := gb233) (o := .cells #[.slice none 0 0, .slice none 0 0, .slice none 0 0, .slice none 0 0] 38 (0, 0)) (by (with_reducible repeat (first | refine kn_ ?_ _ | refine kd_ ?_ | refine ka_ ?_ _)); exact BK233.out) hb)
           have n7_ := am_ (kb_ (g := gb240) (o := .cells #[.slice Ao17 t234.length co17, .slice Ao25 x241001_1.length co25, .slice Ao16 y237.length co16, .slice Ao26 x241003_1.length co26] 38 (0, 0)) (by (with_reducible repeat (first | refine kn_ ?_ _ | refine kd_ ?_ | refine ka_ ?_ _)); exact BK240.out) hb)
           have n8_ := am_ (bp_ (by repeat (first | (with_reducible first | exact HB.out | apply ba_ | apply pw_below_drewN | apply bd_ | refine bs_ ?_ GE233.out | refine bs_ ?_ GE240.out) | exact HB.out)) hb)
           clear HO_241000
           clear HO_241002
           clear HO_241003
           clear HO243
           clear HO246
           clear BK233
           clear BK240
           clear HB
           have HO_241000 := n0_
           have HO_241002 := n1_
           have HO_241003 := n2_
           have HO243 := n3_
           have HO246 := n4_
           have HO249 := n5_
           have BK233 := n6_
           have BK240 := n7_
           have HB := n8_
           clear n0_ n1_ n2_ n3_ n4_ n5_ n6_ n7_ n8_
           clear hb ho33
           refine hK.out _ _ ⟨(kc_ BK240.out 0).trans rfl, (kc_ BK240.out 1).trans rfl, (kc_ BK240.out 2).trans rfl, (kc_ BK240.out 3).trans rfl⟩ (fun hHeld => ?_)
           clear hK K
           refine norm_ (a' := ?_) ?_ ?_
           rotate_left
           ·
            show Act.put _ (some 26) _ = _
            simp only [Act.put, List.setIfInBounds_toArray, List.set_cons_zero, List.set_cons_succ, i64_w, i32_w]
            rfl
           exact norm_ (by simp only [putAll, Act.put, List.setIfInBounds_toArray, List.set_cons_zero, List.set_cons_succ]) (hCont (.slice Ao31 y241.length co31, v245, v248) _ ⟨hHeld, (by (with_reducible repeat (first | apply ra_ | apply rn_ | apply rd_)); exact rm_ HO243.out (fun _ hk => ⟨hk.1.2, ⟨hk.2, ⟨hk.1.1.1, ⟨hk.1.1.2.1, hk.1.1.2.2⟩⟩⟩⟩)), (by (with_reducible repeat (first | apply ra_ | apply rn_ | apply rd_)); exact rm_ HO246.out (fun _ hk => ⟨hk.1.2.2.2, ⟨hk.2, ⟨hk.1.1, ⟨hk.1.2.1, hk.1.2.2.1⟩⟩⟩⟩)), (by (with_reducible repeat (first | apply ra_ | apply rn_ | apply rd_)); exact rm_ HO249.out (fun _ hk => ⟨hk.1.2, ⟨hk.2, ⟨hk.1.1.1.1.2, ⟨hk.1.1.1.2, hk.1.1.2⟩⟩⟩⟩)), (by (with_reducible repeat (first | apply ra_ | apply rn_ | apply rd_)); exact rm_ HO_241000.out (fun _ hk => ⟨hk.1.1.2.2, ⟨hk.1.2, ⟨hk.2, ⟨hk.1.1.1, hk.1.1.2.1⟩⟩⟩⟩)), (by (with_reducible repeat (first | apply ra_ | apply rn_ | apply rd_)); exact rm_ HO_241002.out (fun _ hk => ⟨hk.1.1.2.2, ⟨hk.1.2, ⟨hk.2, ⟨hk.1.1.1, hk.1.1.2.1⟩⟩⟩⟩)), (by (with_reducible repeat (first | apply ra_ | apply rn_ | apply rd_)); exact rm_ HO_241003.out (fun _ hk => ⟨hk.1.1.2.2, ⟨hk.1.2, ⟨hk.2, ⟨hk.1.1.1, hk.1.1.2.1⟩⟩⟩⟩)), (by (with_reducible repeat (first | refine kn_ ?_ _ | refine kd_ ?_ | refine ka_ ?_ _)); exact BK233.out), (by (with_reducible repeat (first | refine kn_ ?_ _ | refine kd_ ?_ | refine ka_ ?_ _)); exact BK240.out), (by repeat (first | (with_reducible first | exact HB.out | apply ba_ | apply pw_below_drewN | apply bd_ | refine bs_ ?_ GE233.out | refine bs_ ?_ GE240.out) | exact HB.out))⟩)
          ·
           skip
           refine Kd.R_lit_step (Kd.int .i64) _ 3 ?hg (N := 26) ?hd (xs := ([a2] : List Int)) (inner := [.int .i64 a2]) (ok := fun _ => True) (okp := fun _ => True) ?hr ?hp (fun _ hk => hk) trivial (Below.refl _ _) (Nat.le_refl _) (by simp) ?_; (case hd => rfl); (case hg => rfl); (case hr => first | (go_simp; done) | (go_simp; rfl)); (case hp => exact (Reps.one (show Kd.M (Kd.int .i64) _ _ _ a2 [.int .i64 a2] from rfl) (Reps.none _ _)))
           intro v248 w30 ho31 hb hg_ hnew_
           clear hg_ hnew_
           (first | rw [← Ny247.out] at ho31 | (simp only [Int.reduceToNat] at ho31; rw [← Ny247.out] at ho31))
           have n0_ := am_ (Kd.R_elder' (by (with_reducible repeat (first | apply ra_ | apply rn_ | apply rd_)); exact HO_241000.out) (Kd.R_base ho31) hb)
           have n1_ := am_ (Kd.R_elder' (by (with_reducible repeat (first | apply ra_ | apply rn_ | apply rd_)); exact HO_241001.out) (Kd.R_base ho31) hb)
           have n2_ := am_ (Kd.R_elder' (by (with_reducible repeat (first | apply ra_ | apply rn_ | apply rd_)); exact HO_241002.out) (Kd.R_base ho31) hb)
           have n3_ := am_ (Kd.R_elder' (by (with_reducible repeat (first | apply ra_ | apply rn_ | apply rd_)); exact HO_241003.out) (Kd.R_base ho31) hb)
           have n4_ := am_ (Kd.R_elder' (by (with_reducible repeat (first | apply ra_ | apply rn_ | apply rd_)); exact HO243.out) (Kd.R_base ho31) hb)
           have n5_ := am_ (Kd.R_lower (Kd.R_new' (Kd.R_new' (Kd.R_new' (Kd.R_new' (Kd.R_new' ho31 (Kd.R_lt (by (with_reducible repeat (first | apply ra_ | apply rn_ | apply rd_)); exact HO_241000.out))) (Kd.R_lt (by (with_reducible repeat (first | apply ra_ | apply rn_ | apply rd_)); exact HO_241001.out))) (Kd.R_lt (by (with_reducible repeat (first | apply ra_ | apply rn_ | apply rd_)); exact HO_241002.out))) (Kd.R_lt (by (with_reducible repeat (first | apply ra_ | apply rn_ | apply rd_)); exact HO_241003.out))) (Kd.R_lt (by (with_reducible repeat (first | apply ra_ | apply rn_ | apply rd_)); exact HO243.out))) (bz_ (by repeat (first | (with_reducible first | exact HB.out | apply ba_ | apply pw_below_drewN | apply bd_ | refine bs_ ?_ GE233.out | refine bs_ ?_ GE240.out) | exact HB.out))))
           have n6_ := am_ (kb_ (g := gb233) (o := .cells #[.slice none 0 0, .slice none 0 0, .slice none 0 0, .slice none 0 0] 38 (0, 0)) (by (with_reducible repeat (first | refine kn_ ?_ _ | refine kd_ ?_ | refine ka_ ?_ _)); exact BK233.out) hb)
           have n7_ := am_ (kb_ (g := gb240) (o := .cells #[.slice Ao17 t234.length co17, .slice Ao25 x241001_1.length co25, .slice Ao16 y237.length co16, .slice Ao26 x241003_1.length co26] 38 (0, 0)) (by (with_reducible repeat (first | refine kn_ ?_ _ | refine kd_ ?_ | refine ka_ ?_ _)); exact BK240.out) hb)
           have n8_ := am_ (bp_ (by repeat (first | (with_reducible first | exact HB.out | apply ba_ | apply pw_below_drewN | apply bd_ | refine bs_ ?_ GE233.out | refine bs_ ?_ GE240.out) | exact HB.out)) hb)
           clear HO_241000
           clear HO_241001
           clear HO_241002
           clear HO_241003
           clear HO243
           clear BK233
           clear BK240
           clear HB
           have HO_241000 := n0_
           have HO_241001 := n1_
           have HO_241002 := n2_
           have HO_241003 := n3_
           have HO243 := n4_
           have HO249 := n5_
           have BK233 := n6_
           have BK240 := n7_
           have HB := n8_
           clear n0_ n1_ n2_ n3_ n4_ n5_ n6_ n7_ n8_
           clear hb ho31
           obtain ⟨Ao33, co33, eo33⟩ := rs_ HO243.out
           (first | subst eo33 | (injection eo33 with f1_ f2_ f3_; have f4_ := f1_.symm; have f5_ := f3_.symm; clear f1_ f2_ f3_; subst f4_; subst f5_))
           refine hK.out _ _ ⟨(kc_ BK240.out 0).trans rfl, (kc_ BK240.out 1).trans rfl, (kc_ BK240.out 2).trans rfl, (kc_ BK240.out 3).trans rfl⟩ (fun hHeld => ?_)
           clear hK K
           refine norm_ (a' := ?_) ?_ ?_
           rotate_left
           ·
            show Act.put _ (some 26) _ = _
            simp only [Act.put, List.setIfInBounds_toArray, List.set_cons_zero, List.set_cons_succ, i64_w, i32_w]
            rfl
           refine one_ (i := 4) (N := some 22) #[true, true, true, true, true, true, true, true, true, false, false, false, false, false] rfl rfl (one_of HT_.out (by kernel_rfl)) (by decide) (fun K hK => ?_)
           refine Kd.R_append_rows_step (Kd.int .i64) (w0 := w) w.heap.size (by rfl) (.tmp 19) (.tmp 21) 22 3 (.int .i64 0) 8 rfl Try.underlying22 info3 rfl (by decide) (by omega) (.slice Ao25 x241001_1.length co25) x241001_1 y241 _ _ _ (fun k_ => some k_ ≠ (.slice Ao17 t234.length co17 : Value).ownBlock ∧ some k_ ≠ (.slice Ao16 y237.length co16 : Value).ownBlock ∧ some k_ ≠ (.slice Ao26 x241003_1.length co26 : Value).ownBlock ∧ some k_ ≠ (.slice Ao33 y241.length co33 : Value).ownBlock ∧ some k_ ≠ (v248 : Value).ownBlock) (fun _ => False) rfl rfl ?aO ?aR (fun _ _ h => h) (fun _ h => h.elim) ?aF ?aB ?aS ?aL ?_
           (case aR => repeat (first | exact (Kd.R_reads' HO243.out).2.2 | (with_reducible refine ca_ ?_ _) | (with_reducible refine cn_ ?_ _) | (with_reducible refine cd_ ?_)))
           (case aB => exact (by repeat (first | (with_reducible first | exact HB.out | apply ba_ | apply pw_below_drewN | apply bd_ | refine bs_ ?_ GE233.out | refine bs_ ?_ GE240.out) | exact HB.out)))
           (case aF => exact (fun k_ hk => ⟨Kd.fresh' (Kd.R_lt (by (with_reducible repeat (first | apply ra_ | apply rn_ | apply rd_)); exact HO_241000.out)) k_ hk, Kd.fresh' (Kd.R_lt (by (with_reducible repeat (first | apply ra_ | apply rn_ | apply rd_)); exact HO_241002.out)) k_ hk, Kd.fresh' (Kd.R_lt (by (with_reducible repeat (first | apply ra_ | apply rn_ | apply rd_)); exact HO_241003.out)) k_ hk, Kd.fresh' (Kd.R_lt (by (with_reducible repeat (first | apply ra_ | apply rn_ | apply rd_)); exact HO243.out)) k_ hk, Kd.fresh' (Kd.R_lt (by (with_reducible repeat (first | apply ra_ | apply rn_ | apply rd_)); exact HO249.out)) k_ hk⟩))
           (case aO => exact (by (with_reducible repeat (first | apply ra_ | apply rn_ | apply rd_)); exact rm_ HO_241001.out (fun _ hk => ⟨hk.1.1.1, ⟨hk.1.1.2.1, ⟨hk.1.1.2.2, ⟨hk.1.2, hk.2⟩⟩⟩⟩)))
           (case aS => exact (bz_ (by repeat (first | (with_reducible first | exact HB.out | apply ba_ | apply pw_below_drewN | apply bd_ | refine bs_ ?_ GE233.out | refine bs_ ?_ GE240.out) | exact HB.out))))
           (case aL => have := LMc23.out; omega)
           intro v245 w32 ho hb hg hat
           rw [← Ny244.out] at ho
           have n0_ := am_ (Kd.R_after (ok := (fun k_ => some k_ ≠ (.slice Ao16 y237.length co16 : Value).ownBlock ∧ some k_ ≠ (.slice Ao26 x241003_1.length co26 : Value).ownBlock ∧ some k_ ≠ (.slice Ao33 y241.length co33 : Value).ownBlock ∧ some k_ ≠ (v248 : Value).ownBlock)) (by (with_reducible repeat (first | apply ra_ | apply rn_ | apply rd_)); exact rm_ HO_241000.out (fun _ hk => ⟨⟨hk.1.1.2.1, ⟨hk.1.1.2.2, ⟨hk.1.2, hk.2⟩⟩⟩, hk.1.1.1⟩)) hg hat)
           have n1_ := am_ (Kd.R_after (ok := (fun k_ => some k_ ≠ (.slice Ao17 t234.length co17 : Value).ownBlock ∧ some k_ ≠ (.slice Ao26 x241003_1.length co26 : Value).ownBlock ∧ some k_ ≠ (.slice Ao33 y241.length co33 : Value).ownBlock ∧ some k_ ≠ (v248 : Value).ownBlock)) (by (with_reducible repeat (first | apply ra_ | apply rn_ | apply rd_)); exact rm_ HO_241002.out (fun _ hk => ⟨⟨hk.1.1.1, ⟨hk.1.1.2.2, ⟨hk.1.2, hk.2⟩⟩⟩, hk.1.1.2.1⟩)) hg hat)
           have n2_ := am_ (Kd.R_after (ok := (fun k_ => some k_ ≠ (.slice Ao17 t234.length co17 : Value).ownBlock ∧ some k_ ≠ (.slice Ao16 y237.length co16 : Value).ownBlock ∧ some k_ ≠ (.slice Ao33 y241.length co33 : Value).ownBlock ∧ some k_ ≠ (v248 : Value).ownBlock)) (by (with_reducible repeat (first | apply ra_ | apply rn_ | apply rd_)); exact rm_ HO_241003.out (fun _ hk => ⟨⟨hk.1.1.1, ⟨hk.1.1.2.2, ⟨hk.1.2, hk.2⟩⟩⟩, hk.1.1.2.1⟩)) hg hat)
           have n3_ := am_ (blk_grown (g := gb233) (o := .cells #[.slice none 0 0, .slice none 0 0, .slice none 0 0, .slice none 0 0] 38 (0, 0)) (by (with_reducible repeat (first | refine kn_ ?_ _ | refine kd_ ?_ | refine ka_ ?_ _)); exact BK233.out) hg (Kd.R_ne HO_241001.out BK233.out (by decide)))
           have n4_ := am_ (blk_grown (g := gb240) (o := .cells #[.slice Ao17 t234.length co17, .slice Ao25 x241001_1.length co25, .slice Ao16 y237.length co16, .slice Ao26 x241003_1.length co26] 38 (0, 0)) (by (with_reducible repeat (first | refine kn_ ?_ _ | refine kd_ ?_ | refine ka_ ?_ _)); exact BK240.out) hg (Kd.R_ne HO_241001.out BK240.out (by decide)))
           have n5_ := am_ (Kd.R_after (ok := (fun k_ => some k_ ≠ (.slice Ao17 t234.length co17 : Value).ownBlock ∧ some k_ ≠ (.slice Ao16 y237.length co16 : Value).ownBlock ∧ some k_ ≠ (.slice Ao26 x241003_1.length co26 : Value).ownBlock ∧ some k_ ≠ (v248 : Value).ownBlock)) (by (with_reducible repeat (first | apply ra_ | apply rn_ | apply rd_)); exact rm_ HO243.out (fun _ hk => ⟨⟨hk.1.1.1.1.2, ⟨hk.1.1.2, ⟨hk.1.2, hk.2⟩⟩⟩, hk.1.1.1.2⟩)) hg hat)
           have n6_ := am_ (Kd.R_after (ok := (fun k_ => some k_ ≠ (.slice Ao17 t234.length co17 : Value).ownBlock ∧ some k_ ≠ (.slice Ao16 y237.length co16 : Value).ownBlock ∧ some k_ ≠ (.slice Ao26 x241003_1.length co26 : Value).ownBlock ∧ some k_ ≠ (.slice Ao33 y241.length co33 : Value).ownBlock)) (by (with_reducible repeat (first | apply ra_ | apply rn_ | apply rd_)); exact rm_ HO249.out (fun _ hk => ⟨⟨hk.1.1.1.1.2, ⟨hk.1.1.2, ⟨hk.1.2, hk.2⟩⟩⟩, hk.1.1.1.2⟩)) hg hat)
           have n7_ := am_ (hb)
           have n8_ := am_ (ho)
           clear HO_241000
           clear HO_241002
           clear HO_241003
           clear BK233
           clear BK240
           clear HO243
           clear HO249
           clear HB
           clear HO_241001
           have HO_241000 := n0_
           have HO_241002 := n1_
           have HO_241003 := n2_
           have BK233 := n3_
           have BK240 := n4_
           have HO243 := n5_
           have HO249 := n6_
           have HB := n7_
           have HO246 := n8_
           clear n0_ n1_ n2_ n3_ n4_ n5_ n6_ n7_ n8_
           clear ho hb hg hat
           refine hK.out _ _ ⟨(kc_ BK240.out 0).trans rfl, (kc_ BK240.out 1).trans rfl, (kc_ BK240.out 2).trans rfl, (kc_ BK240.out 3).trans rfl⟩ (fun hHeld => ?_)
           clear hK K
           refine norm_ (a' := ?_) ?_ ?_
           rotate_left
           ·
            show Act.put _ (some 22) _ = _
            simp only [Act.put, List.setIfInBounds_toArray, List.set_cons_zero, List.set_cons_succ, i64_w, i32_w]
            rfl
           refine pure_ (i := 10) (N := some 28) (v := ?_) (a' := ?_) #[true, true, true, true, true, true, true, true, true, false, true, false, false, false] rfl rfl (any_of HT_.out (by kernel_rfl)) (fun _ _ _ h => h) (Or.inl ⟨by rfl, ?_⟩) ?_ ?_
           rotate_left
           ·
            intro w'
            go_simp
            with_reducible rfl
           rotate_left
           ·
            simp only [Act.put, List.setIfInBounds_toArray, List.set_cons_zero, List.set_cons_succ, i64_w, i32_w]
            rfl
           exact norm_ (by simp only [putAll, Act.put, List.setIfInBounds_toArray, List.set_cons_zero, List.set_cons_succ]) (hCont (.slice Ao33 y241.length co33, v245, v248) _ ⟨hHeld, (by (with_reducible repeat (first | apply ra_ | apply rn_ | apply rd_)); exact rm_ HO243.out (fun _ hk => ⟨hk.2, ⟨hk.1.2.2.2, ⟨hk.1.1, ⟨hk.1.2.1, hk.1.2.2.1⟩⟩⟩⟩)), (by (with_reducible repeat (first | apply ra_ | apply rn_ | apply rd_)); exact rm_ HO246.out (fun _ hk => ⟨hk.2.2.2.1, ⟨hk.2.2.2.2, ⟨hk.1, ⟨hk.2.1, hk.2.2.1⟩⟩⟩⟩)), (by (with_reducible repeat (first | apply ra_ | apply rn_ | apply rd_)); exact rm_ HO249.out (fun _ hk => ⟨hk.1.2.2.2, ⟨hk.2, ⟨hk.1.1, ⟨hk.1.2.1, hk.1.2.2.1⟩⟩⟩⟩)), (by (with_reducible repeat (first | apply ra_ | apply rn_ | apply rd_)); exact rm_ HO_241000.out (fun _ hk => ⟨hk.1.2.2.1, ⟨hk.2, ⟨hk.1.2.2.2, ⟨hk.1.1, hk.1.2.1⟩⟩⟩⟩)), (by (with_reducible repeat (first | apply ra_ | apply rn_ | apply rd_)); exact rm_ HO_241002.out (fun _ hk => ⟨hk.1.2.2.1, ⟨hk.2, ⟨hk.1.2.2.2, ⟨hk.1.1, hk.1.2.1⟩⟩⟩⟩)), (by (with_reducible repeat (first | apply ra_ | apply rn_ | apply rd_)); exact rm_ HO_241003.out (fun _ hk => ⟨hk.1.2.2.1, ⟨hk.2, ⟨hk.1.2.2.2, ⟨hk.1.1, hk.1.2.1⟩⟩⟩⟩)), (by (with_reducible repeat (first | refine kn_ ?_ _ | refine kd_ ?_ | refine ka_ ?_ _)); exact BK233.out), (by (with_reducible repeat (first | refine kn_ ?_ _ | refine kd_ ?_ | refine ka_ ?_ _)); exact BK240.out), (by repeat (first | (with_reducible first | exact HB.out | apply ba_ | apply pw_below_drewN | apply bd_ | refine bs_ ?_ GE233.out | refine bs_ ?_ GE240.out) | exact HB.out))⟩)
         ·
          skip
          refine Kd.R_lit_step (Kd.int .i64) _ 3 ?hg (N := 26) ?hd (xs := ([a2] : List Int)) (inner := [.int .i64 a2]) (ok := fun _ => True) (okp := fun _ => True) ?hr ?hp (fun _ hk => hk) trivial (Below.refl _ _) (Nat.le_refl _) (by simp) ?_; (case hd => rfl); (case hg => rfl); (case hr => first | (go_simp; done) | (go_simp; rfl)); (case hp => exact (Reps.one (show Kd.M (Kd.int .i64) _ _ _ a2 [.int .i64 a2] from rfl) (Reps.none _ _)))
          intro v248 w28 ho29 hb hg_ hnew_
          clear hg_ hnew_
          (first | rw [← Ny247.out] at ho29 | (simp only [Int.reduceToNat] at ho29; rw [← Ny247.out] at ho29))
          have n0_ := am_ (Kd.R_elder' (by (with_reducible repeat (first | apply ra_ | apply rn_ | apply rd_)); exact HO_241000.out) (Kd.R_base ho29) hb)
          have n1_ := am_ (Kd.R_elder' (by (with_reducible repeat (first | apply ra_ | apply rn_ | apply rd_)); exact HO_241001.out) (Kd.R_base ho29) hb)
          have n2_ := am_ (Kd.R_elder' (by (with_reducible repeat (first | apply ra_ | apply rn_ | apply rd_)); exact HO_241002.out) (Kd.R_base ho29) hb)
          have n3_ := am_ (Kd.R_elder' (by (with_reducible repeat (first | apply ra_ | apply rn_ | apply rd_)); exact HO_241003.out) (Kd.R_base ho29) hb)
          have n4_ := am_ (Kd.R_lower (Kd.R_new' (Kd.R_new' (Kd.R_new' (Kd.R_new' ho29 (Kd.R_lt (by (with_reducible repeat (first | apply ra_ | apply rn_ | apply rd_)); exact HO_241000.out))) (Kd.R_lt (by (with_reducible repeat (first | apply ra_ | apply rn_ | apply rd_)); exact HO_241001.out))) (Kd.R_lt (by (with_reducible repeat (first | apply ra_ | apply rn_ | apply rd_)); exact HO_241002.out))) (Kd.R_lt (by (with_reducible repeat (first | apply ra_ | apply rn_ | apply rd_)); exact HO_241003.out))) (bz_ (by repeat (first | (with_reducible first | exact HB.out | apply ba_ | apply pw_below_drewN | apply bd_ | refine bs_ ?_ GE233.out | refine bs_ ?_ GE240.out) | exact HB.out))))
          have n5_ := am_ (kb_ (g := gb233) (o := .cells #[.slice none 0 0, .slice none 0 0, .slice none 0 0, .slice none 0 0] 38 (0, 0)) (by (with_reducible repeat (first | refine kn_ ?_ _ | refine kd_ ?_ | refine ka_ ?_ _)); exact BK233.out) hb)
          have n6_ := am_ (kb_ (g := gb240) (o := .cells #[.slice Ao17 t234.length co17, .slice Ao25 x241001_1.length co25, .slice Ao16 y237.length co16, .slice Ao26 x241003_1.length co26] 38 (0, 0)) (by (with_reducible repeat (first | refine kn_ ?_ _ | refine kd_ ?_ | refine ka_ ?_ _)); exact BK240.out) hb)
          have n7_ := am_ (bp_ (by repeat (first | (with_reducible first | exact HB.out | apply ba_ | apply pw_below_drewN | apply bd_ | refine bs_ ?_ GE233.out | refine bs_ ?_ GE240.out) | exact HB.out)) hb)
          clear HO_241000
          clear HO_241001
          clear HO_241002
          clear HO_241003
          clear BK233
          clear BK240
          clear HB
          have HO_241000 := n0_
          have HO_241001 := n1_
          have HO_241002 := n2_
          have HO_241003 := n3_
          have HO249 := n4_
          have BK233 := n5_
          have BK240 := n6_
          have HB := n7_
          clear n0_ n1_ n2_ n3_ n4_ n5_ n6_ n7_
          clear hb ho29
          refine hK.out _ _ ⟨(kc_ BK240.out 0).trans rfl, (kc_ BK240.out 1).trans rfl, (kc_ BK240.out 2).trans rfl, (kc_ BK240.out 3).trans rfl⟩ (fun hHeld => ?_)
          clear hK K
          refine norm_ (a' := ?_) ?_ ?_
          rotate_left
          ·
           show Act.put _ (some 26) _ = _
           simp only [Act.put, List.setIfInBounds_toArray, List.set_cons_zero, List.set_cons_succ, i64_w, i32_w]
           rfl
          refine one_ (i := 3) (N := some 21) #[true, true, true, true, false, true, true, true, true, false, false, false, false, false] rfl rfl (one_of HT_.out (by kernel_rfl)) (by decide) (fun K hK => ?_)
          refine Kd.R_lit_step (Kd.int .i64) _ 3 ?hg (N := 21) ?hd (xs := ([a1] : List Int)) (inner := [.int .i64 a1]) (ok := fun _ => True) (okp := fun _ => True) ?hr ?hp (fun _ hk => hk) trivial (Below.refl _ _) (Nat.le_refl _) (by simp) ?_; (case hd => rfl); (case hg => rfl); (case hr => first | (go_simp; done) | (go_simp; rfl)); (case hp => exact (Reps.one (show Kd.M (Kd.int .i64) _ _ _ a1 [.int .i64 a1] from rfl) (Reps.none _ _)))
          intro v242 w30 ho31 hb hg_ hnew_
          clear hg_ hnew_
          (first | rw [← Ny241.out] at ho31 | (simp only [Int.reduceToNat] at ho31; rw [← Ny241.out] at ho31))
          have n0_ := am_ (Kd.R_elder' (by (with_reducible repeat (first | apply ra_ | apply rn_ | apply rd_)); exact HO_241000.out) (Kd.R_base ho31) hb)
          have n1_ := am_ (Kd.R_elder' (by (with_reducible repeat (first | apply ra_ | apply rn_ | apply rd_)); exact HO_241001.out) (Kd.R_base ho31) hb)
          have n2_ := am_ (Kd.R_elder' (by (with_reducible repeat (first | apply ra_ | apply rn_ | apply rd_)); exact HO_241002.out) (Kd.R_base ho31) hb)
          have n3_ := am_ (Kd.R_elder' (by (with_reducible repeat (first | apply ra_ | apply rn_ | apply rd_)); exact HO_241003.out) (Kd.R_base ho31) hb)
          have n4_ := am_ (Kd.R_elder' (by (with_reducible repeat (first | apply ra_ | apply rn_ | apply rd_)); exact HO249.out) (Kd.R_base ho31) hb)
          have n5_ := am_ (Kd.R_lower (Kd.R_new' (Kd.R_new' (Kd.R_new' (Kd.R_new' (Kd.R_new' ho31 (Kd.R_lt (by (with_reducible repeat (first | apply ra_ | apply rn_ | apply rd_)); exact HO_241000.out))) (Kd.R_lt (by (with_reducible repeat (first | apply ra_ | apply rn_ | apply rd_)); exact HO_241001.out))) (Kd.R_lt (by (with_reducible repeat (first | apply ra_ | apply rn_ | apply rd_)); exact HO_241002.out))) (Kd.R_lt (by (with_reducible repeat (first | apply ra_ | apply rn_ | apply rd_)); exact HO_241003.out))) (Kd.R_lt (by (with_reducible repeat (first | apply ra_ | apply rn_ | apply rd_)); exact HO249.out))) (bz_ (by repeat (first | (with_reducible first | exact HB.out | apply ba_ | apply pw_below_drewN | apply bd_ | refine bs_ ?_ GE233.out | refine bs_ ?_ GE240.out) | exact HB.out))))
          have n6_ := am_ (kb_ (g := gb233) (o := .cells #[.slice none 0 0, .slice none 0 0, .slice none 0 0, .slice none 0 0] 38 (0, 0)) (by (with_reducible repeat (first | refine kn_ ?_ _ | refine kd_ ?_ | refine ka_ ?_ _)); exact BK233.out) hb)
          have n7_ := am_ (kb_ (g := gb240) (o := .cells #[.slice Ao17 t234.length co17, .slice Ao25 x241001_1.length co25, .slice Ao16 y237.length co16, .slice Ao26 x241003_1.length co26] 38 (0, 0)) (by (with_reducible repeat (first | refine kn_ ?_ _ | refine kd_ ?_ | refine ka_ ?_ _)); exact BK240.out) hb)
          have n8_ := am_ (bp_ (by repeat (first | (with_reducible first | exact HB.out | apply ba_ | apply pw_below_drewN | apply bd_ | refine bs_ ?_ GE233.out | refine bs_ ?_ GE240.out) | exact HB.out)) hb)
          clear HO_241000
          clear HO_241001
          clear HO_241002
          clear HO_241003
          clear HO249
          clear BK233
          clear BK240
          clear HB
          have HO_241000 := n0_
          have HO_241001 := n1_
          have HO_241002 := n2_
          have HO_241003 := n3_
          have HO249 := n4_
          have HO243 := n5_
          have BK233 := n6_
          have BK240 := n7_
          have HB := n8_
          clear n0_ n1_ n2_ n3_ n4_ n5_ n6_ n7_ n8_
          clear hb ho31
          obtain ⟨Ao33, co33, eo33⟩ := rs_ HO243.out
          (first | subst eo33 | (injection eo33 with f1_ f2_ f3_; have f4_ := f1_.symm; have f5_ := f3_.symm; clear f1_ f2_ f3_; subst f4_; subst f5_))
          refine hK.out _ _ ⟨(kc_ BK240.out 0).trans rfl, (kc_ BK240.out 1).trans rfl, (kc_ BK240.out 2).trans rfl, (kc_ BK240.out 3).trans rfl⟩ (fun hHeld => ?_)
          clear hK K
          refine norm_ (a' := ?_) ?_ ?_
          rotate_left
          ·
           show Act.put _ (some 21) _ = _
           simp only [Act.put, List.setIfInBounds_toArray, List.set_cons_zero, List.set_cons_succ, i64_w, i32_w]
           rfl
          refine one_ (i := 4) (N := some 22) #[true, true, true, true, true, true, true, true, true, false, false, false, false, false] rfl rfl (one_of HT_.out (by kernel_rfl)) (by decide) (fun K hK => ?_)
          refine Kd.R_append_rows_step (Kd.int .i64) (w0 := w) w.heap.size (by rfl) (.tmp 19) (.tmp 21) 22 3 (.int .i64 0) 8 rfl Try.underlying22 info3 rfl (by decide) (by omega) (.slice Ao25 x241001_1.length co25) x241001_1 y241 _ _ _ (fun k_ => some k_ ≠ (.slice Ao17 t234.length co17 : Value).ownBlock ∧ some k_ ≠ (.slice Ao16 y237.length co16 : Value).ownBlock ∧ some k_ ≠ (.slice Ao26 x241003_1.length co26 : Value).ownBlock ∧ some k_ ≠ (v248 : Value).ownBlock ∧ some k_ ≠ (.slice Ao33 y241.length co33 : Value).ownBlock) (fun _ => False) rfl rfl ?aO ?aR (fun _ _ h => h) (fun _ h => h.elim) ?aF ?aB ?aS ?aL ?_
          (case aR => repeat (first | exact (Kd.R_reads' HO243.out).2.2 | (with_reducible refine ca_ ?_ _) | (with_reducible refine cn_ ?_ _) | (with_reducible refine cd_ ?_)))
          (case aB => exact (by repeat (first | (with_reducible first | exact HB.out | apply ba_ | apply pw_below_drewN | apply bd_ | refine bs_ ?_ GE233.out | refine bs_ ?_ GE240.out) | exact HB.out)))
          (case aF => exact (fun k_ hk => ⟨Kd.fresh' (Kd.R_lt (by (with_reducible repeat (first | apply ra_ | apply rn_ | apply rd_)); exact HO_241000.out)) k_ hk, Kd.fresh' (Kd.R_lt (by (with_reducible repeat (first | apply ra_ | apply rn_ | apply rd_)); exact HO_241002.out)) k_ hk, Kd.fresh' (Kd.R_lt (by (with_reducible repeat (first | apply ra_ | apply rn_ | apply rd_)); exact HO_241003.out)) k_ hk, Kd.fresh' (Kd.R_lt (by (with_reducible repeat (first | apply ra_ | apply rn_ | apply rd_)); exact HO249.out)) k_ hk, Kd.fresh' (Kd.R_lt (by (with_reducible repeat (first | apply ra_ | apply rn_ | apply rd_)); exact HO243.out)) k_ hk⟩))
          (case aO => exact (by (with_reducible repeat (first | apply ra_ | apply rn_ | apply rd_)); exact rm_ HO_241001.out (fun _ hk => ⟨hk.1.1.1, ⟨hk.1.1.2.1, ⟨hk.1.1.2.2, ⟨hk.1.2, hk.2⟩⟩⟩⟩)))
          (case aS => exact (bz_ (by repeat (first | (with_reducible first | exact HB.out | apply ba_ | apply pw_below_drewN | apply bd_ | refine bs_ ?_ GE233.out | refine bs_ ?_ GE240.out) | exact HB.out))))
          (case aL => have := LMc23.out; omega)
          intro v245 w32 ho hb hg hat
          rw [← Ny244.out] at ho
          have n0_ := am_ (Kd.R_after (ok := (fun k_ => some k_ ≠ (.slice Ao16 y237.length co16 : Value).ownBlock ∧ some k_ ≠ (.slice Ao26 x241003_1.length co26 : Value).ownBlock ∧ some k_ ≠ (v248 : Value).ownBlock ∧ some k_ ≠ (.slice Ao33 y241.length co33 : Value).ownBlock)) (by (with_reducible repeat (first | apply ra_ | apply rn_ | apply rd_)); exact rm_ HO_241000.out (fun _ hk => ⟨⟨hk.1.1.2.1, ⟨hk.1.1.2.2, ⟨hk.1.2, hk.2⟩⟩⟩, hk.1.1.1⟩)) hg hat)
          have n1_ := am_ (Kd.R_after (ok := (fun k_ => some k_ ≠ (.slice Ao17 t234.length co17 : Value).ownBlock ∧ some k_ ≠ (.slice Ao26 x241003_1.length co26 : Value).ownBlock ∧ some k_ ≠ (v248 : Value).ownBlock ∧ some k_ ≠ (.slice Ao33 y241.length co33 : Value).ownBlock)) (by (with_reducible repeat (first | apply ra_ | apply rn_ | apply rd_)); exact rm_ HO_241002.out (fun _ hk => ⟨⟨hk.1.1.1, ⟨hk.1.1.2.2, ⟨hk.1.2, hk.2⟩⟩⟩, hk.1.1.2.1⟩)) hg hat)
          have n2_ := am_ (Kd.R_after (ok := (fun k_ => some k_ ≠ (.slice Ao17 t234.length co17 : Value).ownBlock ∧ some k_ ≠ (.slice Ao16 y237.length co16 : Value).ownBlock ∧ some k_ ≠ (v248 : Value).ownBlock ∧ some k_ ≠ (.slice Ao33 y241.length co33 : Value).ownBlock)) (by (with_reducible repeat (first | apply ra_ | apply rn_ | apply rd_)); exact rm_ HO_241003.out (fun _ hk => ⟨⟨hk.1.1.1, ⟨hk.1.1.2.2, ⟨hk.1.2, hk.2⟩⟩⟩, hk.1.1.2.1⟩)) hg hat)
          have n3_ := am_ (blk_grown (g := gb233) (o := .cells #[.slice none 0 0, .slice none 0 0, .slice none 0 0, .slice none 0 0] 38 (0, 0)) (by (with_reducible repeat (first | refine kn_ ?_ _ | refine kd_ ?_ | refine ka_ ?_ _)); exact BK233.out) hg (Kd.R_ne HO_241001.out BK233.out (by decide)))
          have n4_ := am_ (blk_grown (g := gb240) (o := .cells #[.slice Ao17 t234.length co17, .slice Ao25 x241001_1.length co25, .slice Ao16 y237.length co16, .slice Ao26 x241003_1.length co26] 38 (0, 0)) (by (with_reducible repeat (first | refine kn_ ?_ _ | refine kd_ ?_ | refine ka_ ?_ _)); exact BK240.out) hg (Kd.R_ne HO_241001.out BK240.out (by decide)))
          have n5_ := am_ (Kd.R_after (ok := (fun k_ => some k_ ≠ (.slice Ao17 t234.length co17 : Value).ownBlock ∧ some k_ ≠ (.slice Ao16 y237.length co16 : Value).ownBlock ∧ some k_ ≠ (.slice Ao26 x241003_1.length co26 : Value).ownBlock ∧ some k_ ≠ (.slice Ao33 y241.length co33 : Value).ownBlock)) (by (with_reducible repeat (first | apply ra_ | apply rn_ | apply rd_)); exact rm_ HO249.out (fun _ hk => ⟨⟨hk.1.1.1.1.2, ⟨hk.1.1.2, ⟨hk.1.2, hk.2⟩⟩⟩, hk.1.1.1.2⟩)) hg hat)
          have n6_ := am_ (Kd.R_after (ok := (fun k_ => some k_ ≠ (.slice Ao17 t234.length co17 : Value).ownBlock ∧ some k_ ≠ (.slice Ao16 y237.length co16 : Value).ownBlock ∧ some k_ ≠ (.slice Ao26 x241003_1.length co26 : Value).ownBlock ∧ some k_ ≠ (v248 : Value).ownBlock)) (by (with_reducible repeat (first | apply ra_ | apply rn_ | apply rd_)); exact rm_ HO243.out (fun _ hk => ⟨⟨hk.1.1.1.1.2, ⟨hk.1.1.2, ⟨hk.1.2, hk.2⟩⟩⟩, hk.1.1.1.2⟩)) hg hat)
          have n7_ := am_ (hb)
          have n8_ := am_ (ho)
          clear HO_241000
          clear HO_241002
          clear HO_241003
          clear BK233
          clear BK240
          clear HO249
          clear HO243
          clear HB
          clear HO_241001
          have HO_241000 := n0_
          have HO_241002 := n1_
          have HO_241003 := n2_
          have BK233 := n3_
          have BK240 := n4_
          have HO249 := n5_
          have HO243 := n6_
          have HB := n7_
          have HO246 := n8_
          clear n0_ n1_ n2_ n3_ n4_ n5_ n6_ n7_ n8_
          clear ho hb hg hat
          refine hK.out _ _ ⟨(kc_ BK240.out 0).trans rfl, (kc_ BK240.out 1).trans rfl, (kc_ BK240.out 2).trans rfl, (kc_ BK240.out 3).trans rfl⟩ (fun hHeld => ?_)
          clear hK K
          refine norm_ (a' := ?_) ?_ ?_
          rotate_left
          ·
           show Act.put _ (some 22) _ = _
           simp only [Act.put, List.setIfInBounds_toArray, List.set_cons_zero, List.set_cons_succ, i64_w, i32_w]
           rfl
          refine pure_ (i := 10) (N := some 28) (v := ?_) (a' := ?_) #[true, true, true, true, true, true, true, true, true, false, true, false, false, false] rfl rfl (any_of HT_.out (by kernel_rfl)) (fun _ _ _ h => h) (Or.inl ⟨by rfl, ?_⟩) ?_ ?_
          rotate_left
          ·
           intro w'
           go_simp
           with_reducible rfl
          rotate_left
          ·
           simp only [Act.put, List.setIfInBounds_toArray, List.set_cons_zero, List.set_cons_succ, i64_w, i32_w]
           rfl
          exact norm_ (by simp only [putAll, Act.put, List.setIfInBounds_toArray, List.set_cons_zero, List.set_cons_succ]) (hCont (.slice Ao33 y241.length co33, v245, v248) _ ⟨hHeld, (by (with_reducible repeat (first | apply ra_ | apply rn_ | apply rd_)); exact rm_ HO243.out (fun _ hk => ⟨hk.2, ⟨hk.1.2.2.2, ⟨hk.1.1, ⟨hk.1.2.1, hk.1.2.2.1⟩⟩⟩⟩)), (by (with_reducible repeat (first | apply ra_ | apply rn_ | apply rd_)); exact rm_ HO246.out (fun _ hk => ⟨hk.2.2.2.2, ⟨hk.2.2.2.1, ⟨hk.1, ⟨hk.2.1, hk.2.2.1⟩⟩⟩⟩)), (by (with_reducible repeat (first | apply ra_ | apply rn_ | apply rd_)); exact rm_ HO249.out (fun _ hk => ⟨hk.1.2.2.2, ⟨hk.2, ⟨hk.1.1, ⟨hk.1.2.1, hk.1.2.2.1⟩⟩⟩⟩)), (by (with_reducible repeat (first | apply ra_ | apply rn_ | apply rd_)); exact rm_ HO_241000.out (fun _ hk => ⟨hk.1.2.2.2, ⟨hk.2, ⟨hk.1.2.2.1, ⟨hk.1.1, hk.1.2.1⟩⟩⟩⟩)), (by (with_reducible repeat (first | apply ra_ | apply rn_ | apply rd_)); exact rm_ HO_241002.out (fun _ hk => ⟨hk.1.2.2.2, ⟨hk.2, ⟨hk.1.2.2.1, ⟨hk.1.1, hk.1.2.1⟩⟩⟩⟩)), (by (with_reducible repeat (first | apply ra_ | apply rn_ | apply rd_)); exact rm_ HO_241003.out (fun _ hk => ⟨hk.1.2.2.2, ⟨hk.2, ⟨hk.1.2.2.1, ⟨hk.1.1, hk.1.2.1⟩⟩⟩⟩)), (by (with_reducible repeat (first | refine kn_ ?_ _ | refine kd_ ?_ | refine ka_ ?_ _)); exact BK233.out), (by (with_reducible repeat (first | refine kn_ ?_ _ | refine kd_ ?_ | refine ka_ ?_ _)); exact BK240.out), (by repeat (first | (with_reducible first | exact HB.out | apply ba_ | apply pw_below_drewN | apply bd_ | refine bs_ ?_ GE233.out | refine bs_ ?_ GE240.out) | exact HB.out))⟩)
        rintro ⟨v242, v245, v248⟩ w34 ⟨hS_, h0_, h1_, h2_, h3_, h4_, h5_, h6_, h7_, h8_⟩
        have n0_ : Aside0 (Kd.R (Kd.int .i64) 3 w34 w.heap.size (fun k_ => some k_ ≠ (v245 : Value).ownBlock ∧ some k_ ≠ (v248 : Value).ownBlock ∧ some k_ ≠ (.slice Ao17 t234.length co17 : Value).ownBlock ∧ some k_ ≠ (.slice Ao16 y237.length co16 : Value).ownBlock ∧ some k_ ≠ (.slice Ao26 x241003_1.length co26 : Value).ownBlock) v242 y241) := ⟨h0_⟩
        have n1_ : Aside0 (Kd.R (Kd.int .i64) 3 w34 w.heap.size (fun k_ => some k_ ≠ (v242 : Value).ownBlock ∧ some k_ ≠ (v248 : Value).ownBlock ∧ some k_ ≠ (.slice Ao17 t234.length co17 : Value).ownBlock ∧ some k_ ≠ (.slice Ao16 y237.length co16 : Value).ownBlock ∧ some k_ ≠ (.slice Ao26 x241003_1.length co26 : Value).ownBlock) v245 y244) := ⟨h1_⟩
        have n2_ : Aside0 (Kd.R (Kd.int .i64) 3 w34 w.heap.size (fun k_ => some k_ ≠ (v242 : Value).ownBlock ∧ some k_ ≠ (v245 : Value).ownBlock ∧ some k_ ≠ (.slice Ao17 t234.length co17 : Value).ownBlock ∧ some k_ ≠ (.slice Ao16 y237.length co16 : Value).ownBlock ∧ some k_ ≠ (.slice Ao26 x241003_1.length co26 : Value).ownBlock) v248 y247) := ⟨h2_⟩
        have n3_ : Aside0 (Kd.R (Kd.int .i64) 3 w34 w.heap.size (fun k_ => some k_ ≠ (v242 : Value).ownBlock ∧ some k_ ≠ (v245 : Value).ownBlock ∧ some k_ ≠ (v248 : Value).ownBlock ∧ some k_ ≠ (.slice Ao16 y237.length co16 : Value).ownBlock ∧ some k_ ≠ (.slice Ao26 x241003_1.length co26 : Value).ownBlock) (.slice Ao17 t234.length co17) t234) := ⟨h3_⟩
        have n4_ : Aside0 (Kd.R (Kd.int .i64) 3 w34 w.heap.size (fun k_ => some k_ ≠ (v242 : Value).ownBlock ∧ some k_ ≠ (v245 : Value).ownBlock ∧ some k_ ≠ (v248 : Value).ownBlock ∧ some k_ ≠ (.slice Ao17 t234.length co17 : Value).ownBlock ∧ some k_ ≠ (.slice Ao26 x241003_1.length co26 : Value).ownBlock) (.slice Ao16 y237.length co16) y237) := ⟨h4_⟩
        have n5_ : Aside0 (Kd.R (Kd.int .i64) 3 w34 w.heap.size (fun k_ => some k_ ≠ (v242 : Value).ownBlock ∧ some k_ ≠ (v245 : Value).ownBlock ∧ some k_ ≠ (v248 : Value).ownBlock ∧ some k_ ≠ (.slice Ao17 t234.length co17 : Value).ownBlock ∧ some k_ ≠ (.slice Ao16 y237.length co16 : Value).ownBlock) (.slice Ao26 x241003_1.length co26) x241003_1) := ⟨h5_⟩
        have n6_ : Aside0 (w34.heap[gb233]? = some (.cells #[.slice none 0 0, .slice none 0 0, .slice none 0 0, .slice none 0 0] 38 (0, 0))) := ⟨h6_⟩
        have n7_ : Aside0 (w34.heap[gb240]? = some (.cells #[.slice Ao17 t234.length co17, .slice Ao25 x241001_1.length co25, .slice Ao16 y237.length co16, .slice Ao26 x241003_1.length co26] 38 (0, 0))) := ⟨h7_⟩
        have n8_ : Aside0 (Below w.heap.size w w34) := ⟨h8_⟩
        clear HO_241000
        clear HO_241001
        clear HO_241002
        clear HO_241003
        clear BK233
        clear BK240
        clear HB
        clear h0_ h1_ h2_ h3_ h4_ h5_ h6_ h7_ h8_
        have HO243 := n0_
        have HO246 := n1_
        have HO249 := n2_
        have HO_241000 := n3_
        have HO_241002 := n4_
        have HO_241003 := n5_
        have BK233 := n6_
        have BK240 := n7_
        have HB := n8_
        clear n0_ n1_ n2_ n3_ n4_ n5_ n6_ n7_ n8_
        have hHeld : w34.cell? ⟨gb240, 0, none⟩ = some (.slice Ao17 t234.length co17) ∧ w34.cell? ⟨gb240, 1, none⟩ = some (.slice Ao25 x241001_1.length co25) ∧ w34.cell? ⟨gb240, 2, none⟩ = some (.slice Ao16 y237.length co16) ∧ w34.cell? ⟨gb240, 3, none⟩ = some (.slice Ao26 x241003_1.length co26) := hS_
        obtain ⟨Ao36, co36, eo36⟩ := rs_ HO249.out
        (first | subst eo36 | (injection eo36 with f1_ f2_ f3_; have f4_ := f1_.symm; have f5_ := f3_.symm; clear f1_ f2_ f3_; subst f4_; subst f5_))
        refine norm_ (a' := ?_) ?_ ?_
        rotate_left
        ·
         simp only [putAll, Act.put, List.setIfInBounds_toArray, List.set_cons_zero, List.set_cons_succ]
         rfl
        refine one_ (i := 9) (N := some 27) #[true, true, true, true, true, true, true, true, true, true, true, false, false, false] rfl rfl (one_of HT_.out (by kernel_rfl)) (by decide) (fun K hK => ?_)
        refine Kd.R_append_rows_step (Kd.int .i64) (w0 := w) w.heap.size (by rfl) (.tmp 24) (.tmp 26) 22 3 (.int .i64 0) 8 rfl Try.underlying22 info3 rfl (by decide) (by omega) (.slice Ao26 x241003_1.length co26) x241003_1 y247 _ _ _ (fun k_ => some k_ ≠ (.slice Ao17 t234.length co17 : Value).ownBlock ∧ some k_ ≠ (.slice Ao16 y237.length co16 : Value).ownBlock ∧ some k_ ≠ (v242 : Value).ownBlock ∧ some k_ ≠ (v245 : Value).ownBlock ∧ some k_ ≠ (.slice Ao36 y247.length co36 : Value).ownBlock) (fun _ => False) rfl rfl ?aO ?aR (fun _ _ h => h) (fun _ h => h.elim) ?aF ?aB ?aS ?aL ?_
        (case aR => repeat (first | exact (Kd.R_reads' HO249.out).2.2 | (with_reducible refine ca_ ?_ _) | (with_reducible refine cn_ ?_ _) | (with_reducible refine cd_ ?_)))
        (case aB => exact (by repeat (first | (with_reducible first | exact HB.out | apply ba_ | apply pw_below_drewN | apply bd_ | refine bs_ ?_ GE233.out | refine bs_ ?_ GE240.out) | exact HB.out)))
        (case aF => exact (fun k_ hk => ⟨Kd.fresh' (Kd.R_lt (by (with_reducible repeat (first | apply ra_ | apply rn_ | apply rd_)); exact HO_241000.out)) k_ hk, Kd.fresh' (Kd.R_lt (by (with_reducible repeat (first | apply ra_ | apply rn_ | apply rd_)); exact HO_241002.out)) k_ hk, Kd.fresh' (Kd.R_lt (by (with_reducible repeat (first | apply ra_ | apply rn_ | apply rd_)); exact HO243.out)) k_ hk, Kd.fresh' (Kd.R_lt (by (with_reducible repeat (first | apply ra_ | apply rn_ | apply rd_)); exact HO246.out)) k_ hk, Kd.fresh' (Kd.R_lt (by (with_reducible repeat (first | apply ra_ | apply rn_ | apply rd_)); exact HO249.out)) k_ hk⟩))
        (case aO => exact (by (with_reducible repeat (first | apply ra_ | apply rn_ | apply rd_)); exact rm_ HO_241003.out (fun _ hk => ⟨hk.2.2.2.1, ⟨hk.2.2.2.2, ⟨hk.1, ⟨hk.2.1, hk.2.2.1⟩⟩⟩⟩)))
        (case aS => exact (bz_ (by repeat (first | (with_reducible first | exact HB.out | apply ba_ | apply pw_below_drewN | apply bd_ | refine bs_ ?_ GE233.out | refine bs_ ?_ GE240.out) | exact HB.out))))
        (case aL => have := LMc24.out; omega)
        intro v251 w35 ho hb hg hat
        rw [← Ny250.out] at ho
        have n0_ := am_ (Kd.R_after (ok := (fun k_ => some k_ ≠ (.slice Ao16 y237.length co16 : Value).ownBlock ∧ some k_ ≠ (v242 : Value).ownBlock ∧ some k_ ≠ (v245 : Value).ownBlock ∧ some k_ ≠ (.slice Ao36 y247.length co36 : Value).ownBlock)) (by (with_reducible repeat (first | apply ra_ | apply rn_ | apply rd_)); exact rm_ HO_241000.out (fun _ hk => ⟨⟨hk.2.2.2.1, ⟨hk.1, ⟨hk.2.1, hk.2.2.1⟩⟩⟩, hk.2.2.2.2⟩)) hg hat)
        have n1_ := am_ (Kd.R_after (ok := (fun k_ => some k_ ≠ (.slice Ao17 t234.length co17 : Value).ownBlock ∧ some k_ ≠ (v242 : Value).ownBlock ∧ some k_ ≠ (v245 : Value).ownBlock ∧ some k_ ≠ (.slice Ao36 y247.length co36 : Value).ownBlock)) (by (with_reducible repeat (first | apply ra_ | apply rn_ | apply rd_)); exact rm_ HO_241002.out (fun _ hk => ⟨⟨hk.2.2.2.1, ⟨hk.1, ⟨hk.2.1, hk.2.2.1⟩⟩⟩, hk.2.2.2.2⟩)) hg hat)
        have n2_ := am_ (blk_grown (g := gb233) (o := .cells #[.slice none 0 0, .slice none 0 0, .slice none 0 0, .slice none 0 0] 38 (0, 0)) (by (with_reducible repeat (first | refine kn_ ?_ _ | refine kd_ ?_ | refine ka_ ?_ _)); exact BK233.out) hg (Kd.R_ne HO_241003.out BK233.out (by decide)))
        have n3_ := am_ (blk_grown (g := gb240) (o := .cells #[.slice Ao17 t234.length co17, .slice Ao25 x241001_1.length co25, .slice Ao16 y237.length co16, .slice Ao26 x241003_1.length co26] 38 (0, 0)) (by (with_reducible repeat (first | refine kn_ ?_ _ | refine kd_ ?_ | refine ka_ ?_ _)); exact BK240.out) hg (Kd.R_ne HO_241003.out BK240.out (by decide)))
        have n4_ := am_ (Kd.R_after (ok := (fun k_ => some k_ ≠ (.slice Ao17 t234.length co17 : Value).ownBlock ∧ some k_ ≠ (.slice Ao16 y237.length co16 : Value).ownBlock ∧ some k_ ≠ (v245 : Value).ownBlock ∧ some k_ ≠ (.slice Ao36 y247.length co36 : Value).ownBlock)) (by (with_reducible repeat (first | apply ra_ | apply rn_ | apply rd_)); exact rm_ HO243.out (fun _ hk => ⟨⟨hk.2.2.1, ⟨hk.2.2.2.1, ⟨hk.1, hk.2.1⟩⟩⟩, hk.2.2.2.2⟩)) hg hat)
        have n5_ := am_ (Kd.R_after (ok := (fun k_ => some k_ ≠ (.slice Ao17 t234.length co17 : Value).ownBlock ∧ some k_ ≠ (.slice Ao16 y237.length co16 : Value).ownBlock ∧ some k_ ≠ (v242 : Value).ownBlock ∧ some k_ ≠ (.slice Ao36 y247.length co36 : Value).ownBlock)) (by (with_reducible repeat (first | apply ra_ | apply rn_ | apply rd_)); exact rm_ HO246.out (fun _ hk => ⟨⟨hk.2.2.1, ⟨hk.2.2.2.1, ⟨hk.1, hk.2.1⟩⟩⟩, hk.2.2.2.2⟩)) hg hat)
        have n6_ := am_ (Kd.R_after (ok := (fun k_ => some k_ ≠ (.slice Ao17 t234.length co17 : Value).ownBlock ∧ some k_ ≠ (.slice Ao16 y237.length co16 : Value).ownBlock ∧ some k_ ≠ (v242 : Value).ownBlock ∧ some k_ ≠ (v245 : Value).ownBlock)) (by (with_reducible repeat (first | apply ra_ | apply rn_ | apply rd_)); exact rm_ HO249.out (fun _ hk => ⟨⟨hk.2.2.1, ⟨hk.2.2.2.1, ⟨hk.1, hk.2.1⟩⟩⟩, hk.2.2.2.2⟩)) hg hat)
        have n7_ := am_ (hb)
        have n8_ := am_ (ho)
        clear HO_241000
        clear HO_241002
        clear BK233
        clear BK240
        clear HO243
        clear HO246
        clear HO249
        clear HB
        clear HO_241003
        have HO_241000 := n0_
        have HO_241002 := n1_
        have BK233 := n2_
        have BK240 := n3_
        have HO243 := n4_
        have HO246 := n5_
        have HO249 := n6_
        have HB := n7_
        have HO252 := n8_
        clear n0_ n1_ n2_ n3_ n4_ n5_ n6_ n7_ n8_
        clear ho hb hg hat
        obtain ⟨Ao37, co37, eo37⟩ := rs_ HO246.out
        (first | subst eo37 | (injection eo37 with f1_ f2_ f3_; have f4_ := f1_.symm; have f5_ := f3_.symm; clear f1_ f2_ f3_; subst f4_; subst f5_))
        obtain ⟨Ao39, co39, eo39⟩ := rs_ HO252.out
        (first | subst eo39 | (injection eo39 with f1_ f2_ f3_; have f4_ := f1_.symm; have f5_ := f3_.symm; clear f1_ f2_ f3_; subst f4_; subst f5_))
        refine hK.out _ _ ⟨(kc_ BK240.out 0).trans rfl, (kc_ BK240.out 1).trans rfl, (kc_ BK240.out 2).trans rfl, (kc_ BK240.out 3).trans rfl⟩ (fun hHeld => ?_)
        clear hK K
        refine norm_ (a' := ?_) ?_ ?_
        rotate_left
        ·
         show Act.put _ (some 27) _ = _
         simp only [Act.put, List.setIfInBounds_toArray, List.set_cons_zero, List.set_cons_succ, i64_w, i32_w]
         rfl
        refine last_ (i := 11) (N := none) #[true, true, true, true, true, true, true, true, true, true, true, true, false, false] rfl rfl (one_of HT_.out (by kernel_rfl)) (by decide) (fun K hK => ?_)
        have hs38 : w35.cell? ⟨gb240, 1, none⟩ = some (.slice Ao25 x241001_1.length co25) := (kc_ BK240.out 1).trans rfl
        have hfs38 := kf_ BK240.out 1
        have hns38_0 := NB233_240.out
        have hms38_0 := NB240_233.out
        refine skip_ (w1 := ?_) (by rfl) rfl ?_ ?_
        rotate_left
        ·
         go_simp
         rfl
        refine hK.out _ _ ?_
        clear hK K
        refine pure_ (i := 12) (N := some 29) (v := ?_) (a' := ?_) #[true, true, true, true, true, true, true, true, true, true, true, true, true, false] rfl rfl (any_of HT_.out (by kernel_rfl)) (fun _ _ _ h => h) (Or.inl ⟨by rfl, ?_⟩) ?_ ?_
        rotate_left
        ·
         intro w'
         go_simp
         with_reducible rfl
        rotate_left
        ·
         simp only [Act.put, List.setIfInBounds_toArray, List.set_cons_zero, List.set_cons_succ, i64_w, i32_w]
         rfl
        refine last_ (i := 13) (N := none) #[true, true, true, true, true, true, true, true, true, true, true, true, true, true] rfl rfl (one_of HT_.out (by kernel_rfl)) (by decide) (fun K hK => ?_)
        have hs40 : w35.cell? ⟨gb240, 3, none⟩ = some (.slice Ao26 x241003_1.length co26) := (kc_ BK240.out 3).trans rfl
        have hfs40 := kf_ BK240.out 3
        have hns40_0 := NB233_240.out
        have hms40_0 := NB240_233.out
        refine skip_ (w1 := ?_) (by rfl) rfl ?_ ?_
        rotate_left
        ·
         go_simp
         rfl
        refine hK.out _ _ ?_
        clear hK K
        refine done_ (done_of HT_.out (by kernel_rfl)) ?_
        try go_wp2
        go_roundg k1
        case measure => have := HK1.out; omega
        case rel => exact ⟨(wrap64 (x16_1 + 1)), (y244), (y250), (.slice Ao37 y244.length co37), (.slice Ao39 y250.length co39), (by first | rfl | (simp; done) | (simp [*]; done)), H', ⟨by have := HK1.out; omega⟩, ⟨by (with_reducible repeat (first | apply ra_ | apply rn_ | apply rd_)); exact rm_ (rf_ (p := ⟨gb240, 3, none⟩) (rf_ (p := ⟨gb240, 1, none⟩) (rt_ HO_241000.out BK240.out (by decide)) (fun _ hk => hk.2) (.slice Ao37 y244.length co37)) (fun _ hk => hk.2) (.slice Ao39 y250.length co39)) (fun _ hk => ⟨hk.1.1.2.2.1, ⟨hk.1.1.1, hk.1.2⟩⟩)⟩, ⟨by (with_reducible repeat (first | apply ra_ | apply rn_ | apply rd_)); exact rm_ (rf_ (p := ⟨gb240, 3, none⟩) (rf_ (p := ⟨gb240, 1, none⟩) (rt_ HO246.out BK240.out (by decide)) (fun _ hk => hk.2) (.slice Ao37 y244.length co37)) (fun _ hk => hk.2) (.slice Ao39 y250.length co39)) (fun _ hk => ⟨hk.1.1.1, ⟨hk.1.1.2.1, hk.1.2⟩⟩)⟩, ⟨by (with_reducible repeat (first | apply ra_ | apply rn_ | apply rd_)); exact rm_ (rf_ (p := ⟨gb240, 3, none⟩) (rf_ (p := ⟨gb240, 1, none⟩) (rt_ HO_241002.out BK240.out (by decide)) (fun _ hk => hk.2) (.slice Ao37 y244.length co37)) (fun _ hk => hk.2) (.slice Ao39 y250.length co39)) (fun _ hk => ⟨hk.1.1.1, ⟨hk.1.1.2.2.1, hk.1.2⟩⟩)⟩, ⟨by (with_reducible repeat (first | apply ra_ | apply rn_ | apply rd_)); exact rm_ (rf_ (p := ⟨gb240, 3, none⟩) (rf_ (p := ⟨gb240, 1, none⟩) (rt_ HO252.out BK240.out (by decide)) (fun _ hk => hk.2) (.slice Ao37 y244.length co37)) (fun _ hk => hk.2) (.slice Ao39 y250.length co39)) (fun _ hk => ⟨hk.1.1, ⟨hk.1.2.2.2.1, hk.1.2.1⟩⟩)⟩, ⟨by (with_reducible repeat (first | refine kn_ ?_ _ | refine kd_ ?_ | refine ka_ ?_ _)); refine blk_far ?_ NB233_240.out _; (with_reducible repeat (first | refine kn_ ?_ _ | refine kd_ ?_ | refine ka_ ?_ _)); refine blk_far ?_ NB233_240.out _; (with_reducible repeat (first | refine kn_ ?_ _ | refine kd_ ?_ | refine ka_ ?_ _)); exact BK233.out⟩, ⟨by (with_reducible repeat (first | refine kn_ ?_ _ | refine kd_ ?_ | refine ka_ ?_ _)); refine blk_put (cs := #[.slice Ao17 t234.length co17, .slice Ao37 y244.length co37, .slice Ao16 y237.length co16, .slice Ao26 x241003_1.length co26]) ?_ 3 _ rfl; (with_reducible repeat (first | refine kn_ ?_ _ | refine kd_ ?_ | refine ka_ ?_ _)); refine blk_put (cs := #[.slice Ao17 t234.length co17, .slice Ao25 x241001_1.length co25, .slice Ao16 y237.length co16, .slice Ao26 x241003_1.length co26]) ?_ 1 _ rfl; (with_reducible repeat (first | refine kn_ ?_ _ | refine kd_ ?_ | refine ka_ ?_ _)); exact BK240.out⟩, ⟨by repeat (first | (with_reducible first | exact HB.out | apply ba_ | apply pw_below_drewN | apply bd_ | refine bs_ ?_ GE233.out | refine bs_ ?_ GE240.out) | exact HB.out)⟩⟩
       ·
        rw [if_neg c24] at H
        exact absurd H (by simp)
      ·
       rw [if_neg c23] at H
       exact absurd H (by simp)
     ·
      rw [if_neg c22] at H
      have c22b0 : decide (x16_1 < (l0.length : Int)) = false := decide_eq_false c22
      clear c22
      simp only [Option.some.injEq, Prod.mk.injEq] at H
      obtain ⟨rfl, rfl, rfl, rfl⟩ := H
      have hnb41 := NB240_233.out
      have hnc41 := NB233_240.out
      have hcz42_0 : wr.cell? ⟨gb240, 0, none⟩ = some (.slice Ao17 t234.length co17) := (kc_ BK240.out 0).trans rfl
      have hcz42_1 : wr.cell? ⟨gb240, 1, none⟩ = some (u241001) := (kc_ BK240.out 1).trans rfl
      have hcz42_2 : wr.cell? ⟨gb240, 2, none⟩ = some (.slice Ao16 y237.length co16) := (kc_ BK240.out 2).trans rfl
      have hcz42_3 : wr.cell? ⟨gb240, 3, none⟩ = some (u241003) := (kc_ BK240.out 3).trans rfl
      have hfz42_0 := kf_ BK240.out 0
      have hfz42_1 := kf_ BK240.out 1
      have hfz42_2 := kf_ BK240.out 2
      have hfz42_3 := kf_ BK240.out 3
      have hcz43_0 : wr.cell? ⟨gb233, 0, none⟩ = some (.slice none 0 0) := (kc_ BK233.out 0).trans rfl
      have hcz43_1 : wr.cell? ⟨gb233, 1, none⟩ = some (.slice none 0 0) := (kc_ BK233.out 1).trans rfl
      have hcz43_2 : wr.cell? ⟨gb233, 2, none⟩ = some (.slice none 0 0) := (kc_ BK233.out 2).trans rfl
      have hcz43_3 : wr.cell? ⟨gb233, 3, none⟩ = some (.slice none 0 0) := (kc_ BK233.out 3).trans rfl
      have hfz43_0 := kf_ BK233.out 0
      have hfz43_1 := kf_ BK233.out 1
      have hfz43_2 := kf_ BK233.out 2
      have hfz43_3 := kf_ BK233.out 3
      obtain ⟨Ao44, co44, eo44⟩ := rs_ HO_241001.out
      subst eo44
      obtain ⟨Ao45, co45, eo45⟩ := rs_ HO_241003.out
      subst eo45
      go_wp2
      refine bodyPost_ret (results_cell_row rfl _ _ gb233 38 #[.slice Ao17 t234.length co17, .slice Ao44 x241001_1.length co44, .slice Ao16 y237.length co16, .slice Ao45 x241003_1.length co45] (0, 0) _ rfl (by (with_reducible repeat (first | refine kn_ ?_ _ | refine kd_ ?_ | refine ka_ ?_ _)); refine blk_put (cs := #[.slice Ao17 t234.length co17, .slice Ao44 x241001_1.length co44, .slice Ao16 y237.length co16, .slice none 0 0]) ?_ 3 _ rfl; (with_reducible repeat (first | refine kn_ ?_ _ | refine kd_ ?_ | refine ka_ ?_ _)); refine blk_put (cs := #[.slice Ao17 t234.length co17, .slice Ao44 x241001_1.length co44, .slice none 0 0, .slice none 0 0]) ?_ 2 _ rfl; (with_reducible repeat (first | refine kn_ ?_ _ | refine kd_ ?_ | refine ka_ ?_ _)); refine blk_put (cs := #[.slice Ao17 t234.length co17, .slice none 0 0, .slice none 0 0, .slice none 0 0]) ?_ 1 _ rfl; (with_reducible repeat (first | refine kn_ ?_ _ | refine kd_ ?_ | refine ka_ ?_ _)); refine blk_put (cs := #[.slice none 0 0, .slice none 0 0, .slice none 0 0, .slice none 0 0]) ?_ 0 _ rfl; (with_reducible repeat (first | refine kn_ ?_ _ | refine kd_ ?_ | refine ka_ ?_ _)); exact BK233.out) Try.underlying38 rfl (by kernel_rfl)) rfl ?_
      exact ⟨_, _, _, _, by first | rfl | (simp [errW_none, errW_some] <;> rfl) | (simp [*, errW_none, errW_some] <;> rfl), by (with_reducible repeat (first | apply ra_ | apply rn_ | apply rd_)); exact rm_ (rf_ (p := ⟨gb233, 3, none⟩) (rf_ (p := ⟨gb233, 2, none⟩) (rf_ (p := ⟨gb233, 1, none⟩) (rf_ (p := ⟨gb233, 0, none⟩) (rt_ HO_241000.out BK233.out (by decide)) (fun _ hk => hk.2) (.slice Ao17 t234.length co17)) (fun _ hk => hk.2) (.slice Ao44 x241001_1.length co44)) (fun _ hk => hk.2) (.slice Ao16 y237.length co16)) (fun _ hk => hk.2) (.slice Ao45 x241003_1.length co45)) (fun _ hk => ⟨hk.1.1, ⟨hk.1.2.1, hk.1.2.2⟩⟩), by (with_reducible repeat (first | apply ra_ | apply rn_ | apply rd_)); exact rm_ (rf_ (p := ⟨gb233, 3, none⟩) (rf_ (p := ⟨gb233, 2, none⟩) (rf_ (p := ⟨gb233, 1, none⟩) (rf_ (p := ⟨gb233, 0, none⟩) (rt_ HO_241001.out BK233.out (by decide)) (fun _ hk => hk.2) (.slice Ao17 t234.length co17)) (fun _ hk => hk.2) (.slice Ao44 x241001_1.length co44)) (fun _ hk => hk.2) (.slice Ao16 y237.length co16)) (fun _ hk => hk.2) (.slice Ao45 x241003_1.length co45)) (fun _ hk => ⟨hk.1.1, ⟨hk.1.2.1, hk.1.2.2⟩⟩), by (with_reducible repeat (first | apply ra_ | apply rn_ | apply rd_)); exact rm_ (rf_ (p := ⟨gb233, 3, none⟩) (rf_ (p := ⟨gb233, 2, none⟩) (rf_ (p := ⟨gb233, 1, none⟩) (rf_ (p := ⟨gb233, 0, none⟩) (rt_ HO_241002.out BK233.out (by decide)) (fun _ hk => hk.2) (.slice Ao17 t234.length co17)) (fun _ hk => hk.2) (.slice Ao44 x241001_1.length co44)) (fun _ hk => hk.2) (.slice Ao16 y237.length co16)) (fun _ hk => hk.2) (.slice Ao45 x241003_1.length co45)) (fun _ hk => ⟨hk.1.1, ⟨hk.1.2.1, hk.1.2.2⟩⟩), by (with_reducible repeat (first | apply ra_ | apply rn_ | apply rd_)); exact rm_ (rf_ (p := ⟨gb233, 3, none⟩) (rf_ (p := ⟨gb233, 2, none⟩) (rf_ (p := ⟨gb233, 1, none⟩) (rf_ (p := ⟨gb233, 0, none⟩) (rt_ HO_241003.out BK233.out (by decide)) (fun _ hk => hk.2) (.slice Ao17 t234.length co17)) (fun _ hk => hk.2) (.slice Ao44 x241001_1.length co44)) (fun _ hk => hk.2) (.slice Ao16 y237.length co16)) (fun _ hk => hk.2) (.slice Ao45 x241003_1.length co45)) (fun _ hk => ⟨hk.1.1, ⟨hk.1.2.1, hk.1.2.2⟩⟩), by repeat (first | (with_reducible first | exact HB.out | apply ba_ | apply pw_below_drewN | apply bd_ | refine bs_ ?_ GE233.out | refine bs_ ?_ GE240.out) | exact HB.out)⟩
  ·
   rw [if_neg c6] at H
   exact absurd H (by simp)
 ·
  rw [if_neg c5] at H
  exact absurd H (by simp)

end Go.Proofs.Ytgmoljiehdeelaa.PFnExactNestedPlan
