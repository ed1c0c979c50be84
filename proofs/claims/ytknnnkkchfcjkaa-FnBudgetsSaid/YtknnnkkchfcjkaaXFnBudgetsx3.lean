-- Made by wip/xprint.py: the print of the kit, called over a changed copy of what it reads.
-- PRINTED by print.py (a twelfth state) out of the translation. Not trusted: Lean checks it.
import Derived.Test.YtknnnkkchfcjkaaXFnBudgetsx0
import Derived.Test.YtknnnkkchfcjkaaXFnBudgetsx1
import Derived.Test.YtknnnkkchfcjkaaXFnBudgetsx2
namespace Go.Proofs.Ytknnnkkchfcjkaa.PFnBudgets
open Go.RowKit Go.Proofs.YtknnnkkchfcjkaaW.PrintWords Go.Proofs.YtknnnkkchfcjkaaW.PrintLast Go.Proofs.YtknnnkkchfcjkaaW.PrintMore
open Go.Proofs.YtknnnkkchfcjkaaW.PrintWords.Aside0 renaming mk → am_
open Go.Proofs.YtknnnkkchfcjkaaW.PrintWords renaming below_drew1 → bd_, below_alloc → ba_, below_set → bs_, gate_callee → gc_
open Go.Proofs.YtknnnkkchfcjkaaW.PrintWords.Kd renaming R_alloc → ra_, R_drewN → rn_, R_drew → rd_, R_mono → rm_, R_reads' → rr_, R_slice → rs_, C_alloc → ca_, C_drewN → cn_, C_drew → cd_, S_alloc → sa_, S_drewN → sn_, S_drew → sd_, S_mono → sm_
attribute [local go_sem] max2_int min2_int max_two min_two max_three min_three max_four min_four   -- for this text's walks alone
set_option linter.unusedVariables false
set_option linter.unusedSimpArgs false

/-! ### spec_l1Cur_goods: function 15 -/
mutual
def spec_l1Cur_goods.l0 : Nat → List (List Int) → Int → Int → List Int → Int → Int → Option ((List (List Int)) × Int × Int)
 | 0, _, _, _, _, _, _ => none
 | k + 1, x3, x4, x5, x1000, x1001, x1002 => if x5 > 0 then ((spec_l1Cur_chances.f k x1000 x1001 x1002).bind fun bt183 => (if (x3.length : Int) > 0 then ((spec_l5Good.f k bt183.1).bind fun t188 => (if t188 = true then ((spec_l5Total.f k bt183.1).bind fun t189 => (if t189 < x4 then ((spec_l1Cur_one.f x1000 bt183.2.1 bt183.2.2 12).bind fun bt190 => (spec_l1Cur_goods.j1 k x3 x4 x5 bt183.1 (!bt190.1) x1000 bt190.2.1 bt190.2.2)) else (spec_l1Cur_goods.j1 k x3 x4 x5 bt183.1 false x1000 bt183.2.1 bt183.2.2))) else (spec_l1Cur_goods.j1 k x3 x4 x5 bt183.1 false x1000 bt183.2.1 bt183.2.2))) else (spec_l1Cur_goods.j1 k x3 x4 x5 bt183.1 false x1000 bt183.2.1 bt183.2.2))) else ((spec_l1Cur_one.f x1000 x1001 x1002 24).bind fun bt177 => (if bt177.1 = true then (some ((([] : List (List Int))), bt177.2.1, bt177.2.2)) else (some (x3, bt177.2.1, bt177.2.2))))
def spec_l1Cur_goods.j1 : Nat → List (List Int) → Int → Int → List Int → Bool → List Int → Int → Int → Option ((List (List Int)) × Int × Int)
 | 0, _, _, _, _, _, _, _, _ => none
 | k + 1, x3, x4, x5, x6, x34, x1000, x1001, x1002 => if x34 = true then (if 0 < (x6.length : Int) then ((spec_l5Total.f k x6).bind fun t194 => ((spec_l1Least.f 1000 (wrap64 ((wrap64 ((rd x6 0) + x4)) - t194))).bind fun t195 => (spec_l1Cur_goods.j2 k x3 x4 x5 (x6.set (0 : Int).toNat t195) x1000 x1001 x1002))) else (none)) else (spec_l1Cur_goods.j2 k x3 x4 x5 x6 x1000 x1001 x1002)
def spec_l1Cur_goods.j2 : Nat → List (List Int) → Int → Int → List Int → List Int → Int → Int → Option ((List (List Int)) × Int × Int)
 | 0, _, _, _, _, _, _, _ => none
 | k + 1, x3, x4, x5, x6, x1000, x1001, x1002 => if (x3.length : Int) > 0 then ((spec_l5Good.f k x6).bind fun t197 => (if t197 = true then ((spec_l5Total.f k x6).bind fun t198 => (if t198 = x4 then (spec_l1Cur_goods.j3 k x3 x5 x6 false x1000 x1001 x1002) else ((spec_l1Cur_one.f x1000 x1001 x1002 12).bind fun bt199 => (spec_l1Cur_goods.j3 k x3 x5 x6 (!bt199.1) x1000 bt199.2.1 bt199.2.2)))) else (spec_l1Cur_goods.j3 k x3 x5 x6 false x1000 x1001 x1002))) else (spec_l1Cur_goods.j3 k x3 x5 x6 false x1000 x1001 x1002)
def spec_l1Cur_goods.j3 : Nat → List (List Int) → Int → List Int → Bool → List Int → Int → Int → Option ((List (List Int)) × Int × Int)
 | 0, _, _, _, _, _, _, _ => none
 | k + 1, x3, x5, x6, x63, x1000, x1001, x1002 => if x63 = true then (if 0 < (x3.length : Int) then ((spec_l1Own.f (rd_L2 x3 0)).bind fun t203 => ((spec_l5Total.f k t203).bind fun t206 => (if x3.length < 5864062014805 then (spec_l1Cur_goods.l0 k (x3 ++ [t203]) t206 (wrap64 (x5 - 1)) x1000 x1001 x1002) else (none)))) else (none)) else ((spec_l5Total.f k x6).bind fun t210 => (if x3.length < 5864062014805 then (spec_l1Cur_goods.l0 k (x3 ++ [x6]) t210 (wrap64 (x5 - 1)) x1000 x1001 x1002) else (none)))
end
def spec_l1Cur_goods.f (k : Nat) (s0_0 : List Int) (s0_1 : Int) (s0_2 : Int) : Option ((List (List Int)) × Int × Int) := (spec_l1Cur_among.f s0_0 s0_1 s0_2 (([2, 1, 2, 3] : List Int))).bind fun bt174 => (spec_l1Cur_goods.l0 k (([] : List (List Int))) 0 bt174.1 s0_0 bt174.2.1 bt174.2.2)
theorem spec_l1Cur_goods.mono_l : ∀ k, (∀ y0 y1 y2 y3 y4 y5, LeO (spec_l1Cur_goods.l0 k y0 y1 y2 y3 y4 y5) (spec_l1Cur_goods.l0 (k + 1) y0 y1 y2 y3 y4 y5)) ∧ (∀ y0 y1 y2 y3 y4 y5 y6 y7, LeO (spec_l1Cur_goods.j1 k y0 y1 y2 y3 y4 y5 y6 y7) (spec_l1Cur_goods.j1 (k + 1) y0 y1 y2 y3 y4 y5 y6 y7)) ∧ (∀ y0 y1 y2 y3 y4 y5 y6, LeO (spec_l1Cur_goods.j2 k y0 y1 y2 y3 y4 y5 y6) (spec_l1Cur_goods.j2 (k + 1) y0 y1 y2 y3 y4 y5 y6)) ∧ (∀ y0 y1 y2 y3 y4 y5 y6, LeO (spec_l1Cur_goods.j3 k y0 y1 y2 y3 y4 y5 y6) (spec_l1Cur_goods.j3 (k + 1) y0 y1 y2 y3 y4 y5 y6))
 | 0 => ⟨fun _ _ _ _ _ _ r h => by simp [spec_l1Cur_goods.l0] at h, fun _ _ _ _ _ _ _ _ r h => by simp [spec_l1Cur_goods.j1] at h, fun _ _ _ _ _ _ _ r h => by simp [spec_l1Cur_goods.j2] at h, fun _ _ _ _ _ _ _ r h => by simp [spec_l1Cur_goods.j3] at h⟩
 | k + 1 => by
  obtain ⟨ih0, ih1, ih2, ih3⟩ := spec_l1Cur_goods.mono_l k
  refine ⟨?_, ?_, ?_, ?_⟩
  ·
   intro y0 y1 y2 y3 y4 y5
   unfold spec_l1Cur_goods.l0
   repeat' first
   | (with_reducible exact ih0 _ _ _ _ _ _)
   | (with_reducible exact ih1 _ _ _ _ _ _ _ _)
   | (with_reducible exact ih2 _ _ _ _ _ _ _)
   | (with_reducible exact ih3 _ _ _ _ _ _ _)
   | (with_reducible exact spec_l1Cur_chances.mono _ _ _ _)
   | (with_reducible exact spec_l5Good.mono _ _)
   | (with_reducible exact spec_l5Total.mono _ _)
   | (with_reducible exact LeO.refl _)
   | (with_reducible exact LeO.none _)
   | (with_reducible refine LeO.ite ?_ ?_)
   | (with_reducible refine LeO.bind ?_ (fun _ => ?_))
   | exact ih0 _ _ _ _ _ _
   | exact ih1 _ _ _ _ _ _ _ _
   | exact ih2 _ _ _ _ _ _ _
   | exact ih3 _ _ _ _ _ _ _
   | exact spec_l1Cur_chances.mono _ _ _ _
   | exact spec_l5Good.mono _ _
   | exact spec_l5Total.mono _ _
   | exact LeO.none _
   | refine LeO.ite ?_ ?_
   | refine LeO.bind ?_ (fun _ => ?_)
  ·
   intro y0 y1 y2 y3 y4 y5 y6 y7
   unfold spec_l1Cur_goods.j1
   repeat' first
   | (with_reducible exact ih0 _ _ _ _ _ _)
   | (with_reducible exact ih1 _ _ _ _ _ _ _ _)
   | (with_reducible exact ih2 _ _ _ _ _ _ _)
   | (with_reducible exact ih3 _ _ _ _ _ _ _)
   | (with_reducible exact spec_l1Cur_chances.mono _ _ _ _)
   | (with_reducible exact spec_l5Good.mono _ _)
   | (with_reducible exact spec_l5Total.mono _ _)
   | (with_reducible exact LeO.refl _)
   | (with_reducible exact LeO.none _)
   | (with_reducible refine LeO.ite ?_ ?_)
   | (with_reducible refine LeO.bind ?_ (fun _ => ?_))
   | exact ih0 _ _ _ _ _ _
   | exact ih1 _ _ _ _ _ _ _ _
   | exact ih2 _ _ _ _ _ _ _
   | exact ih3 _ _ _ _ _ _ _
   | exact spec_l1Cur_chances.mono _ _ _ _
   | exact spec_l5Good.mono _ _
   | exact spec_l5Total.mono _ _
   | exact LeO.none _
   | refine LeO.ite ?_ ?_
   | refine LeO.bind ?_ (fun _ => ?_)
  ·
   intro y0 y1 y2 y3 y4 y5 y6
   unfold spec_l1Cur_goods.j2
   repeat' first
   | (with_reducible exact ih0 _ _ _ _ _ _)
   | (with_reducible exact ih1 _ _ _ _ _ _ _ _)
   | (with_reducible exact ih2 _ _ _ _ _ _ _)
   | (with_reducible exact ih3 _ _ _ _ _ _ _)
   | (with_reducible exact spec_l1Cur_chances.mono _ _ _ _)
   | (with_reducible exact spec_l5Good.mono _ _)
   | (with_reducible exact spec_l5Total.mono _ _)
   | (with_reducible exact LeO.refl _)
   | (with_reducible exact LeO.none _)
   | (with_reducible refine LeO.ite ?_ ?_)
   | (with_reducible refine LeO.bind ?_ (fun _ => ?_))
   | exact ih0 _ _ _ _ _ _
   | exact ih1 _ _ _ _ _ _ _ _
   | exact ih2 _ _ _ _ _ _ _
   | exact ih3 _ _ _ _ _ _ _
   | exact spec_l1Cur_chances.mono _ _ _ _
   | exact spec_l5Good.mono _ _
   | exact spec_l5Total.mono _ _
   | exact LeO.none _
   | refine LeO.ite ?_ ?_
   | refine LeO.bind ?_ (fun _ => ?_)
  ·
   intro y0 y1 y2 y3 y4 y5 y6
   unfold spec_l1Cur_goods.j3
   repeat' first
   | (with_reducible exact ih0 _ _ _ _ _ _)
   | (with_reducible exact ih1 _ _ _ _ _ _ _ _)
   | (with_reducible exact ih2 _ _ _ _ _ _ _)
   | (with_reducible exact ih3 _ _ _ _ _ _ _)
   | (with_reducible exact spec_l1Cur_chances.mono _ _ _ _)
   | (with_reducible exact spec_l5Good.mono _ _)
   | (with_reducible exact spec_l5Total.mono _ _)
   | (with_reducible exact LeO.refl _)
   | (with_reducible exact LeO.none _)
   | (with_reducible refine LeO.ite ?_ ?_)
   | (with_reducible refine LeO.bind ?_ (fun _ => ?_))
   | exact ih0 _ _ _ _ _ _
   | exact ih1 _ _ _ _ _ _ _ _
   | exact ih2 _ _ _ _ _ _ _
   | exact ih3 _ _ _ _ _ _ _
   | exact spec_l1Cur_chances.mono _ _ _ _
   | exact spec_l5Good.mono _ _
   | exact spec_l5Total.mono _ _
   | exact LeO.none _
   | refine LeO.ite ?_ ?_
   | refine LeO.bind ?_ (fun _ => ?_)
theorem spec_l1Cur_goods.mono : ∀ a0 a1 a2 k, LeO (spec_l1Cur_goods.f k a0 a1 a2) (spec_l1Cur_goods.f (k + 1) a0 a1 a2) := by
 intro a0 a1 a2 k
 obtain ⟨ih0, ih1, ih2, ih3⟩ := spec_l1Cur_goods.mono_l k
 unfold spec_l1Cur_goods.f
 repeat' first
   | (with_reducible exact ih0 _ _ _ _ _ _)
   | (with_reducible exact ih1 _ _ _ _ _ _ _ _)
   | (with_reducible exact ih2 _ _ _ _ _ _ _)
   | (with_reducible exact ih3 _ _ _ _ _ _ _)
   | (with_reducible exact spec_l1Cur_chances.mono _ _ _ _)
   | (with_reducible exact spec_l5Good.mono _ _)
   | (with_reducible exact spec_l5Total.mono _ _)
   | (with_reducible exact LeO.refl _)
   | (with_reducible exact LeO.none _)
   | (with_reducible refine LeO.ite ?_ ?_)
   | (with_reducible refine LeO.bind ?_ (fun _ => ?_))
   | exact ih0 _ _ _ _ _ _
   | exact ih1 _ _ _ _ _ _ _ _
   | exact ih2 _ _ _ _ _ _ _
   | exact ih3 _ _ _ _ _ _ _
   | exact spec_l1Cur_chances.mono _ _ _ _
   | exact spec_l5Good.mono _ _
   | exact spec_l5Total.mono _ _
   | exact LeO.none _
   | refine LeO.ite ?_ ?_
   | refine LeO.bind ?_ (fun _ => ?_)
def spec_l1Cur_goods.T8 : Bool × List (List Nat × List Nat) := (true, [([], []), ([], []), ([1], [1]), ([2], [2]), ([], []), ([3, 4], [3, 4]), ([], []), ([6], [6]), ([5, 7], [5, 7]), ([8, 7], [8]), ([0, 0, 1, 2, 3, 4, 5, 6, 7, 8, 9], [0]), ([10, 9, 9, 0, 1, 2, 3, 4, 5, 6, 7, 8, 9], [9, 10])])
def spec_l1Cur_goods.B8 : List Nat := [0, 0, 2, 6, 0, 30, 0, 64, 254, 510, 1023, 2047]
theorem spec_l1Cur_goods.tab8 : rtab .any (opsOf Try.f15 8) = spec_l1Cur_goods.T8 := by kernel_rfl
theorem spec_l1Cur_goods.bits8 : waitsOk spec_l1Cur_goods.T8.2 spec_l1Cur_goods.B8 = true := by kernel_rfl
set_option maxHeartbeats 8000000 in
set_option maxRecDepth 100000 in
theorem spec_l1Cur_goods.calls (k : Nat) (g : Nat) (s0_0 : List Int) (s0_1 : Int) (s0_2 : Int) (r1 : List (List Int)) (r2 : Int) (r3 : Int) (w0 w : World) (hI : IsS41 w0 w g s0_0 s0_1 s0_2) (hB : Below w0.heap.size w0 w) (h : spec_l1Cur_goods.f k s0_0 s0_1 s0_2 = some (r1, r2, r3)) :
  Calls Try.prog 15 #[.pointer (some ⟨g, 0, none⟩)] w fun e w' => ∃ v0_ : Value, e = .returned (v0_) ∧ Kd.S (Kd.slice 3 (Kd.int .i64)) 25 w' w.heap.size (fun _ => True) v0_ r1 ∧ IsS41 w0 w' g s0_0 r2 r3 ∧ Below w0.heap.size w0 w' ∧ KeepBut w w' g none := by
 have HI0 := am_ hI
 have HK := am_ (KeepBut.refl w g none)
 have HL := am_ hB.size
 clear hI
 have HW0 := am_ hB.size
 have HB := am_ hB
 clear hB
 have H : ((spec_l1Cur_among.f s0_0 s0_1 s0_2 (([2, 1, 2, 3] : List Int))).bind fun bt174 => (spec_l1Cur_goods.l0 k (([] : List (List Int))) 0 bt174.1 s0_0 bt174.2.1 bt174.2.2)) = some (r1, r2, r3) := h
 clear h
 obtain ⟨y168, hy168⟩ : ∃ y_ : List (List Int), y_ = (([] : List (List Int))) := ⟨_, rfl⟩
 replace H : ((spec_l1Cur_among.f s0_0 s0_1 s0_2 (([2, 1, 2, 3] : List Int))).bind fun bt174 => (spec_l1Cur_goods.l0 k y168 0 bt174.1 s0_0 bt174.2.1 bt174.2.2)) = some (r1, r2, r3) := by first | (rw [hy168]; with_reducible exact H) | (have H2_ := (Option.bind_some _ _).symm.trans H; rw [hy168]; with_reducible exact H2_) | (have H2_ := (Option.bind_some _ _).symm.trans H; with_reducible exact H2_) | with_reducible exact H | (rw [hy168]; exact H) | exact H
 have Ny168 := am_ hy168
 clear hy168
 obtain ⟨y171, hy171⟩ : ∃ y_ : List Int, y_ = (([2, 1, 2, 3] : List Int)) := ⟨_, rfl⟩
 replace H : ((spec_l1Cur_among.f s0_0 s0_1 s0_2 y171).bind fun bt174 => (spec_l1Cur_goods.l0 k y168 0 bt174.1 s0_0 bt174.2.1 bt174.2.2)) = some (r1, r2, r3) := by first | (rw [hy171]; with_reducible exact H) | (have H2_ := (Option.bind_some _ _).symm.trans H; rw [hy171]; with_reducible exact H2_) | (have H2_ := (Option.bind_some _ _).symm.trans H; with_reducible exact H2_) | with_reducible exact H | (rw [hy171]; exact H) | exact H
 have Ny171 := am_ hy171
 clear hy171
 replace H := Option.bind_eq_some_iff.mp H
 obtain ⟨⟨t174, t175, t176⟩, A20, H⟩ := H
 replace H : (spec_l1Cur_goods.l0 k y168 0 t174 s0_0 t175 t176) = some (r1, r2, r3) := H
 have A2 := am_ A20
 clear A20
 have H' := am_ H
 clear H
 go_enter Try.func15, Try.ntmps15
 go_wp2_with (first | ((with_reducible refine gate_dst (N := 7) rfl ?_); refine Kd.S_lit (Kd.slice 3 (Kd.int .i64)) _ 25 ?hg (N := 7) ?hd (xs := ([] : List (List Int))) (inner := []) (ok := fun _ => True) (okp := fun _ => True) ?hr ?hp (fun _ hk => hk) trivial (Below.refl _ _) (Nat.le_refl _) (by simp) ?_; (case hd => rfl); (case hg => rfl); (case hr => first | (go_simp; done) | (go_simp; rfl)); (case hp => exact (Reps.none _ _)); intro v169 w3 ho4 hb hg_ hnew_; clear hg_ hnew_; (first | rw [← Ny168.out] at ho4 | (simp only [Int.reduceToNat] at ho4; rw [← Ny168.out] at ho4)); have n0_ := am_ (Kd.S_lower ho4 (keep_size (w := w) (g := g) (row := none) (by repeat (first | (with_reducible first | exact HK.out | apply KeepBut.set_ | apply keep_drewN | apply keep_drew | apply keep_alloc) | exact HK.out)))); have n1_ := am_ (IsS41.below (by repeat (first | (with_reducible first | exact HI0.out | apply IsS41.alloc | apply IsS41.drewN | apply IsS41.drew | apply IsS41.set_1 | apply IsS41.set_2) | exact HI0.out)) hb); have n2_ := am_ (KeepBut.trans (by repeat (first | (with_reducible first | exact HK.out | apply KeepBut.set_ | apply keep_drewN | apply keep_drew | apply keep_alloc) | exact HK.out)) (KeepBut.of_below hb g none) (.inl rfl)); have n3_ := am_ (below_step (by repeat (first | (with_reducible first | exact HB.out | apply ba_ | apply pw_below_drewN | apply bd_ | refine bs_ ?_ (IsS41.ge HI0.out)) | exact HB.out)) hb); clear HI0; clear HK; clear HB; have HO170 := n0_; have HI0 := n1_; have HK := n2_; have HB := n3_; clear n0_ n1_ n2_ n3_; clear hb ho4) | ((with_reducible refine gate_dst (N := 9) rfl ?_); refine Kd.R_lit (Kd.int .i64) _ 3 ?hg (N := 9) ?hd (xs := ([2, 1, 2, 3] : List Int)) (inner := [.int .i64 2, .int .i64 1, .int .i64 2, .int .i64 3]) (ok := fun _ => True) (okp := fun _ => True) ?hr ?hp (fun _ hk => hk) trivial (Below.refl _ _) (Nat.le_refl _) (by simp) ?_; (case hd => rfl); (case hg => rfl); (case hr => first | (go_simp; done) | (go_simp; rfl)); (case hp => exact (Reps.one (show Kd.M (Kd.int .i64) _ _ _ 2 [.int .i64 2] from rfl) (Reps.one (show Kd.M (Kd.int .i64) _ _ _ 1 [.int .i64 1] from rfl) (Reps.one (show Kd.M (Kd.int .i64) _ _ _ 2 [.int .i64 2] from rfl) (Reps.one (show Kd.M (Kd.int .i64) _ _ _ 3 [.int .i64 3] from rfl) (Reps.none _ _)))))); intro v172 w5 ho6 hb hg_ hnew_; clear hg_ hnew_; (first | rw [← Ny171.out] at ho6 | (simp only [Int.reduceToNat] at ho6; rw [← Ny171.out] at ho6)); have n0_ := am_ (Kd.S_elder' (by (with_reducible repeat (first | apply sa_ | apply sn_ | apply sd_)); exact HO170.out) (Kd.R_base ho6) hb); have n1_ := am_ (Kd.R_lower ho6 (keep_size (w := w) (g := g) (row := none) (by repeat (first | (with_reducible first | exact HK.out | apply KeepBut.set_ | apply keep_drewN | apply keep_drew | apply keep_alloc) | exact HK.out)))); have n2_ := am_ (IsS41.below (by repeat (first | (with_reducible first | exact HI0.out | apply IsS41.alloc | apply IsS41.drewN | apply IsS41.drew | apply IsS41.set_1 | apply IsS41.set_2) | exact HI0.out)) hb); have n3_ := am_ (KeepBut.trans (by repeat (first | (with_reducible first | exact HK.out | apply KeepBut.set_ | apply keep_drewN | apply keep_drew | apply keep_alloc) | exact HK.out)) (KeepBut.of_below hb g none) (.inl rfl)); have n4_ := am_ (below_step (by repeat (first | (with_reducible first | exact HB.out | apply ba_ | apply pw_below_drewN | apply bd_ | refine bs_ ?_ (IsS41.ge HI0.out)) | exact HB.out)) hb); clear HO170; clear HI0; clear HK; clear HB; have HO170 := n0_; have HO173 := n1_; have HI0 := n2_; have HK := n3_; have HB := n4_; clear n0_ n1_ n2_ n3_ n4_; clear hb ho6; obtain ⟨Ao7, co7, eo7⟩ := rs_ HO173.out; subst eo7) | ((with_reducible refine gc_ (f := 16) rfl ?_); refine goesL_ (some 10) rfl rfl Try.func16 (by kernel_rfl) rfl #[.pointer (some ⟨g, 0, none⟩), .slice Ao7 y171.length co7] rfl (by (try simp only [List.map_toArray, List.map_cons, List.map_nil]); first | done | rfl | (simp only [List.length_drop, List.length_take]; rfl)) ?_; (with_reducible refine (spec_l1Cur_among.calls g s0_0 s0_1 s0_2 _ _ y171 t174 t175 t176 w0 _ ?side1 ?side2 ?side3 ?side4 ?side5 A2.out).mono ?_); (case side1 => repeat (first | (with_reducible first | exact HI0.out | apply IsS41.alloc | apply IsS41.drewN | apply IsS41.drew | apply IsS41.set_1 | apply IsS41.set_2) | exact HI0.out)); (case side2 => repeat (first | (with_reducible first | exact HB.out | apply ba_ | apply pw_below_drewN | apply bd_ | refine bs_ ?_ (IsS41.ge HI0.out)) | exact HB.out)); (case side3 => repeat (first | exact (rr_ HO173.out).2.2 | (with_reducible refine ca_ ?_ _) | (with_reducible refine cn_ ?_ _) | (with_reducible refine cd_ ?_))); (case side4 => exact (rr_ HO173.out).2.1); (case side5 => exact far_slice (IsS41.own_ne HI0.out HO173.out (by decide))); rintro e w8 ⟨rfl, hi, hb, hk⟩; refine ⟨_, rfl, ?_⟩; have n0_ := am_ (sm_ (Kd.S_keep (IsS41.apartS (show IsS41 w0 _ g s0_0 s0_1 s0_2 from by repeat (first | (with_reducible first | exact HI0.out | apply IsS41.alloc | apply IsS41.drewN | apply IsS41.drew | apply IsS41.set_1 | apply IsS41.set_2) | exact HI0.out)) (by (with_reducible repeat (first | apply sa_ | apply sn_ | apply sd_)); exact HO170.out) (by decide)) hk (fun _ h => h.2)) (fun _ h => h.1)); have n1_ := am_ (rm_ (Kd.R_keep (IsS41.apart (show IsS41 w0 _ g s0_0 s0_1 s0_2 from by repeat (first | (with_reducible first | exact HI0.out | apply IsS41.alloc | apply IsS41.drewN | apply IsS41.drew | apply IsS41.set_1 | apply IsS41.set_2) | exact HI0.out)) (by (with_reducible repeat (first | apply ra_ | apply rn_ | apply rd_)); exact HO173.out) (by decide)) hk (fun _ h => h.2)) (fun _ h => h.1)); have n2_ := am_ (KeepBut.trans (by repeat (first | (with_reducible first | exact HK.out | apply KeepBut.set_ | apply keep_drewN | apply keep_drew | apply keep_alloc) | exact HK.out)) hk (.inl rfl)); have n3_ := am_ (hb); have n4_ := am_ (hi); clear HO170; clear HO173; clear HK; clear HB; clear HI0; have HO170 := n0_; have HO173 := n1_; have HK := n2_; have HB := n3_; have HI0 := n4_; clear n0_ n1_ n2_ n3_ n4_; (try clear hb); (try clear hb2); (try clear hk); (try clear hi)))
 go_loopg [3, 4, 5] k (fun kq v3 v4 v5 w' => ∃ (x3_1 : List (List Int)) (x4_1 : Int) (x5_1 : Int) (x1001_1 : Int) (x1002_1 : Int), v4 = .int .i64 x4_1 ∧ v5 = .int .i64 x5_1 ∧ Aside0 (spec_l1Cur_goods.l0 kq x3_1 x4_1 x5_1 s0_0 x1001_1 x1002_1 = some (r1, r2, r3)) ∧ Aside0 (kq ≤ k) ∧ Aside0 (Kd.S (Kd.slice 3 (Kd.int .i64)) 25 w' w.heap.size (fun _ => True) v3 x3_1) ∧ Aside0 (IsS41 w0 w' g s0_0 x1001_1 x1002_1) ∧ Aside0 (KeepBut w w' g none) ∧ Aside0 (Below w0.heap.size w0 w'))
 case atStart => exact ⟨(y168), (0), (t174), (t175), (t176), (by first | rfl | (simp; done) | (simp [*]; done)), (by first | rfl | (simp; done) | (simp [*]; done)), H', ⟨Nat.le_refl _⟩, ⟨by (with_reducible repeat (first | apply sa_ | apply sn_ | apply sd_)); exact sm_ HO170.out (fun _ hk => trivial)⟩, ⟨by repeat (first | (with_reducible first | exact HI0.out | apply IsS41.alloc | apply IsS41.drewN | apply IsS41.drew | apply IsS41.set_1 | apply IsS41.set_2) | exact HI0.out)⟩, ⟨by repeat (first | (with_reducible first | exact HK.out | apply KeepBut.set_ | apply keep_drewN | apply keep_drew | apply keep_alloc) | exact HK.out)⟩, ⟨by repeat (first | (with_reducible first | exact HB.out | apply ba_ | apply pw_below_drewN | apply bd_ | refine bs_ ?_ (IsS41.ge HI0.out)) | exact HB.out)⟩⟩
 case round =>
  clear H'
  try clear c1
  try clear p2
  obtain ⟨x3_1, x4_1, x5_1, x1001_1, x1002_1, rfl, rfl, HA, HK1, HO_3, HI0, HK, HB⟩ := hrel
  cases gk with
  | zero => exact absurd HA.out (by simp [spec_l1Cur_goods.l0])
  | succ k1 =>
   have H := HA.out
   clear HA
   simp only [spec_l1Cur_goods.l0] at H
   by_cases c9 : x5_1 > 0
   ·
    rw [if_pos c9] at H
    have c9b0 : decide (0 < x5_1) = true := decide_eq_true c9
    clear c9
    replace H := Option.bind_eq_some_iff.mp H
    obtain ⟨⟨t183, t186, t187⟩, A100, H⟩ := H
    replace H : (if (x3_1.length : Int) > 0 then ((spec_l5Good.f k1 t183).bind fun t188 => (if t188 = true then ((spec_l5Total.f k1 t183).bind fun t189 => (if t189 < x4_1 then ((spec_l1Cur_one.f s0_0 t186 t187 12).bind fun bt190 => (spec_l1Cur_goods.j1 k1 x3_1 x4_1 x5_1 t183 (!bt190.1) s0_0 bt190.2.1 bt190.2.2)) else (spec_l1Cur_goods.j1 k1 x3_1 x4_1 x5_1 t183 false s0_0 t186 t187))) else (spec_l1Cur_goods.j1 k1 x3_1 x4_1 x5_1 t183 false s0_0 t186 t187))) else (spec_l1Cur_goods.j1 k1 x3_1 x4_1 x5_1 t183 false s0_0 t186 t187)) = some (r1, r2, r3) := H
    have A10 := am_ A100
    clear A100
    have HC11 := am_ H
    clear H
    go_upto_region 7 with (first | ((with_reducible refine gc_ (f := 35) rfl ?_); refine goesL_ (some 16) rfl rfl Try.func35 (by kernel_rfl) rfl #[.pointer (some ⟨g, 0, none⟩)] rfl (by (try simp only [List.map_toArray, List.map_cons, List.map_nil]); first | done | rfl | (simp only [List.length_drop, List.length_take]; rfl)) ?_; (with_reducible refine (spec_l1Cur_chances.calls k1 g s0_0 x1001_1 x1002_1 t183 t186 t187 w0 _ ?side1 ?side2 A10.out).mono ?_); (case side1 => repeat (first | (with_reducible first | exact HI0.out | apply IsS41.alloc | apply IsS41.drewN | apply IsS41.drew | apply IsS41.set_1 | apply IsS41.set_2) | exact HI0.out)); (case side2 => repeat (first | (with_reducible first | exact HB.out | apply ba_ | apply pw_below_drewN | apply bd_ | refine bs_ ?_ (IsS41.ge HI0.out)) | exact HB.out)); rintro e w12 ⟨v184, rfl, ho0, hi, hb, hk⟩; refine ⟨_, rfl, ?_⟩; have n0_ := am_ (sm_ (Kd.S_told (Kd.S_oldK (IsS41.apartS (show IsS41 w0 _ g s0_0 x1001_1 x1002_1 from by repeat (first | (with_reducible first | exact HI0.out | apply IsS41.alloc | apply IsS41.drewN | apply IsS41.drew | apply IsS41.set_1 | apply IsS41.set_2) | exact HI0.out)) (by (with_reducible repeat (first | apply sa_ | apply sn_ | apply sd_)); exact HO_3.out) (by decide)) hk) (Kd.R_base ho0)) (fun _ h_ => h_.1)); have n1_ := am_ (Kd.R_lower ho0 (keep_size (w := w) (g := g) (row := none) (by repeat (first | (with_reducible first | exact HK.out | apply KeepBut.set_ | apply keep_drewN | apply keep_drew | apply keep_alloc) | exact HK.out)))); have n2_ := am_ (KeepBut.trans (by repeat (first | (with_reducible first | exact HK.out | apply KeepBut.set_ | apply keep_drewN | apply keep_drew | apply keep_alloc) | exact HK.out)) hk (.inl rfl)); have n3_ := am_ (hb); have n4_ := am_ (hi); clear HO_3; clear HK; clear HB; clear HI0; have HO_3 := n0_; have HO185 := n1_; have HK := n2_; have HB := n3_; have HI0 := n4_; clear n0_ n1_ n2_ n3_ n4_; (try clear hb); (try clear hb2); (try clear hk); (try clear hi); (try clear ho0)))
    (try simp only [Act.put, List.setIfInBounds_toArray, List.set_cons_zero, List.set_cons_succ])
    go_cut [34] (fun v34 wc => ∃ (kq : Nat) (x34_10 : Bool) (x1001_10 : Int) (x1002_10 : Int), v34 = .bool x34_10 ∧ Aside0 (spec_l1Cur_goods.j1 kq x3_1 x4_1 x5_1 t183 x34_10 s0_0 x1001_10 x1002_10 = some (r1, r2, r3)) ∧ Aside0 (kq ≤ k1) ∧ Aside0 (Kd.S (Kd.slice 3 (Kd.int .i64)) 25 wc w.heap.size (fun k_ => some k_ ≠ (v184 : Value).ownBlock) u3 x3_1) ∧ Aside0 (Kd.R (Kd.int .i64) 3 wc w.heap.size (fun _ => True) v184 t183) ∧ Aside0 (IsS41 w0 wc g s0_0 x1001_10 x1002_10) ∧ Aside0 (KeepBut w wc g none) ∧ Aside0 (Below w0.heap.size w0 wc))
    case first =>
     have H := HC11.out
     clear HC11
     by_cases c13 : (x3_1.length : Int) > 0
     ·
      rw [if_pos c13] at H
      have c13b0 : decide (0 < (x3_1.length : Int)) = true := decide_eq_true c13
      have c13b1 : decide (0 < x3_1.length) = true := decide_eq_true (by omega)
      clear c13
      (first | rw [c13b0] | (simp only [i64_w, i32_w]; rw [c13b0]) | skip)
      replace H := Option.bind_eq_some_iff.mp H
      obtain ⟨t188, A140, H⟩ := H
      replace H : (if t188 = true then ((spec_l5Total.f k1 t183).bind fun t189 => (if t189 < x4_1 then ((spec_l1Cur_one.f s0_0 t186 t187 12).bind fun bt190 => (spec_l1Cur_goods.j1 k1 x3_1 x4_1 x5_1 t183 (!bt190.1) s0_0 bt190.2.1 bt190.2.2)) else (spec_l1Cur_goods.j1 k1 x3_1 x4_1 x5_1 t183 false s0_0 t186 t187))) else (spec_l1Cur_goods.j1 k1 x3_1 x4_1 x5_1 t183 false s0_0 t186 t187)) = some (r1, r2, r3) := H
      have A14 := am_ A140
      clear A140
      by_cases c15 : t188 = true
      ·
       subst c15
       have H1 : ((spec_l5Total.f k1 t183).bind fun t189 => (if t189 < x4_1 then ((spec_l1Cur_one.f s0_0 t186 t187 12).bind fun bt190 => (spec_l1Cur_goods.j1 k1 x3_1 x4_1 x5_1 t183 (!bt190.1) s0_0 bt190.2.1 bt190.2.2)) else (spec_l1Cur_goods.j1 k1 x3_1 x4_1 x5_1 t183 false s0_0 t186 t187))) = some (r1, r2, r3) := by rw [if_pos rfl] at H; exact H
       clear H
       have H := H1
       clear H1
       replace H := Option.bind_eq_some_iff.mp H
       obtain ⟨t189, A160, H⟩ := H
       replace H : (if t189 < x4_1 then ((spec_l1Cur_one.f s0_0 t186 t187 12).bind fun bt190 => (spec_l1Cur_goods.j1 k1 x3_1 x4_1 x5_1 t183 (!bt190.1) s0_0 bt190.2.1 bt190.2.2)) else (spec_l1Cur_goods.j1 k1 x3_1 x4_1 x5_1 t183 false s0_0 t186 t187)) = some (r1, r2, r3) := H
       have A16 := am_ A160
       clear A160
       by_cases c17 : t189 < x4_1
       ·
        rw [if_pos c17] at H
        have c17b0 : decide (t189 < x4_1) = true := decide_eq_true c17
        clear c17
        replace H := Option.bind_eq_some_iff.mp H
        obtain ⟨⟨t190, t191, t192⟩, A180, H⟩ := H
        replace H : (spec_l1Cur_goods.j1 k1 x3_1 x4_1 x5_1 t183 (!t190) s0_0 t191 t192) = some (r1, r2, r3) := H
        have A18 := am_ A180
        clear A180
        have H' := am_ H
        clear H
        obtain ⟨Ao19, co19, eo19⟩ := Kd.S_slice HO_3.out
        subst eo19
        obtain ⟨Ao20, co20, eo20⟩ := rs_ HO185.out
        subst eo20
        go_wp2_with (first | (go_at_call 36; (with_reducible refine (spec_l5Good.calls k1 _ _ t183 true _ ?side1 ?side2 A14.out).mono ?_); (case side1 => repeat (first | exact (rr_ HO185.out).2.2 | (with_reducible refine ca_ ?_ _) | (with_reducible refine cn_ ?_ _) | (with_reducible refine cd_ ?_))); (case side2 => exact (rr_ HO185.out).2.1); rintro e w' ⟨rfl, ⟨nd, rfl⟩⟩) | (go_at_call 37; (with_reducible refine (spec_l5Total.calls k1 _ _ t183 t189 _ ?side1 ?side2 A16.out).mono ?_); (case side1 => repeat (first | exact (rr_ HO185.out).2.2 | (with_reducible refine ca_ ?_ _) | (with_reducible refine cn_ ?_ _) | (with_reducible refine cd_ ?_))); (case side2 => exact (rr_ HO185.out).2.1); rintro e w' ⟨rfl, ⟨nd, rfl⟩⟩) | (go_at_call 17; (with_reducible refine (spec_l1Cur_one.calls g s0_0 t186 t187 12 t190 t191 t192 w0 _ ?side1 ?side2 A18.out).mono ?_); (case side1 => repeat (first | (with_reducible first | exact HI0.out | apply IsS41.alloc | apply IsS41.drewN | apply IsS41.drew | apply IsS41.set_1 | apply IsS41.set_2) | exact HI0.out)); (case side2 => repeat (first | (with_reducible first | exact HB.out | apply ba_ | apply pw_below_drewN | apply bd_ | refine bs_ ?_ (IsS41.ge HI0.out)) | exact HB.out)); rintro e w21 ⟨rfl, hi, hb, hk⟩; have n0_ := am_ (sm_ (Kd.S_keep (IsS41.apartS (show IsS41 w0 _ g s0_0 t186 t187 from by repeat (first | (with_reducible first | exact HI0.out | apply IsS41.alloc | apply IsS41.drewN | apply IsS41.drew | apply IsS41.set_1 | apply IsS41.set_2) | exact HI0.out)) (by (with_reducible repeat (first | apply sa_ | apply sn_ | apply sd_)); exact HO_3.out) (by decide)) hk (fun _ h => h.2)) (fun _ h => h.1)); have n1_ := am_ (rm_ (Kd.R_keep (IsS41.apart (show IsS41 w0 _ g s0_0 t186 t187 from by repeat (first | (with_reducible first | exact HI0.out | apply IsS41.alloc | apply IsS41.drewN | apply IsS41.drew | apply IsS41.set_1 | apply IsS41.set_2) | exact HI0.out)) (by (with_reducible repeat (first | apply ra_ | apply rn_ | apply rd_)); exact HO185.out) (by decide)) hk (fun _ h => h.2)) (fun _ h => h.1)); have n2_ := am_ (KeepBut.trans (by repeat (first | (with_reducible first | exact HK.out | apply KeepBut.set_ | apply keep_drewN | apply keep_drew | apply keep_alloc) | exact HK.out)) hk (.inl rfl)); have n3_ := am_ (hb); have n4_ := am_ (hi); clear HO_3; clear HO185; clear HK; clear HB; clear HI0; have HO_3 := n0_; have HO185 := n1_; have HK := n2_; have HB := n3_; have HI0 := n4_; clear n0_ n1_ n2_ n3_ n4_; (try clear hb); (try clear hb2); (try clear hk); (try clear hi)))
        go_meet
        case rel => exact ⟨_, (!t190), (t191), (t192), (by first | rfl | (simp; done) | (simp [*]; done)), H', ⟨by have := HK1.out; first | omega | exact Nat.le_refl _⟩, ⟨by (with_reducible repeat (first | apply sa_ | apply sn_ | apply sd_)); exact sm_ HO_3.out (fun _ hk => hk.2)⟩, ⟨by (with_reducible repeat (first | apply ra_ | apply rn_ | apply rd_)); exact HO185.out⟩, ⟨by repeat (first | (with_reducible first | exact HI0.out | apply IsS41.alloc | apply IsS41.drewN | apply IsS41.drew | apply IsS41.set_1 | apply IsS41.set_2) | exact HI0.out)⟩, ⟨by repeat (first | (with_reducible first | exact HK.out | apply KeepBut.set_ | apply keep_drewN | apply keep_drew | apply keep_alloc) | exact HK.out)⟩, ⟨by repeat (first | (with_reducible first | exact HB.out | apply ba_ | apply pw_below_drewN | apply bd_ | refine bs_ ?_ (IsS41.ge HI0.out)) | exact HB.out)⟩⟩
       ·
        rw [if_neg c17] at H
        have c17b0 : decide (t189 < x4_1) = false := decide_eq_false c17
        clear c17
        have H' := am_ H
        clear H
        obtain ⟨Ao22, co22, eo22⟩ := Kd.S_slice HO_3.out
        subst eo22
        obtain ⟨Ao23, co23, eo23⟩ := rs_ HO185.out
        subst eo23
        go_wp2_with (first | (go_at_call 36; (with_reducible refine (spec_l5Good.calls k1 _ _ t183 true _ ?side1 ?side2 A14.out).mono ?_); (case side1 => repeat (first | exact (rr_ HO185.out).2.2 | (with_reducible refine ca_ ?_ _) | (with_reducible refine cn_ ?_ _) | (with_reducible refine cd_ ?_))); (case side2 => exact (rr_ HO185.out).2.1); rintro e w' ⟨rfl, ⟨nd, rfl⟩⟩) | (go_at_call 37; (with_reducible refine (spec_l5Total.calls k1 _ _ t183 t189 _ ?side1 ?side2 A16.out).mono ?_); (case side1 => repeat (first | exact (rr_ HO185.out).2.2 | (with_reducible refine ca_ ?_ _) | (with_reducible refine cn_ ?_ _) | (with_reducible refine cd_ ?_))); (case side2 => exact (rr_ HO185.out).2.1); rintro e w' ⟨rfl, ⟨nd, rfl⟩⟩))
        go_meet
        case rel => exact ⟨_, (false), (t186), (t187), (by first | rfl | (simp; done) | (simp [*]; done)), H', ⟨by have := HK1.out; first | omega | exact Nat.le_refl _⟩, ⟨by (with_reducible repeat (first | apply sa_ | apply sn_ | apply sd_)); exact sm_ HO_3.out (fun _ hk => hk.2)⟩, ⟨by (with_reducible repeat (first | apply ra_ | apply rn_ | apply rd_)); exact HO185.out⟩, ⟨by repeat (first | (with_reducible first | exact HI0.out | apply IsS41.alloc | apply IsS41.drewN | apply IsS41.drew | apply IsS41.set_1 | apply IsS41.set_2) | exact HI0.out)⟩, ⟨by repeat (first | (with_reducible first | exact HK.out | apply KeepBut.set_ | apply keep_drewN | apply keep_drew | apply keep_alloc) | exact HK.out)⟩, ⟨by repeat (first | (with_reducible first | exact HB.out | apply ba_ | apply pw_below_drewN | apply bd_ | refine bs_ ?_ (IsS41.ge HI0.out)) | exact HB.out)⟩⟩
      ·
       replace c15 := Bool.eq_false_iff.mpr c15
       subst c15
       have H1 : (spec_l1Cur_goods.j1 k1 x3_1 x4_1 x5_1 t183 false s0_0 t186 t187) = some (r1, r2, r3) := by rw [if_neg (show ¬ (false = true) by decide)] at H; exact H
       clear H
       have H := H1
       clear H1
       have H' := am_ H
       clear H
       obtain ⟨Ao24, co24, eo24⟩ := Kd.S_slice HO_3.out
       subst eo24
       obtain ⟨Ao25, co25, eo25⟩ := rs_ HO185.out
       subst eo25
       go_wp2_with (first | (go_at_call 36; (with_reducible refine (spec_l5Good.calls k1 _ _ t183 false _ ?side1 ?side2 A14.out).mono ?_); (case side1 => repeat (first | exact (rr_ HO185.out).2.2 | (with_reducible refine ca_ ?_ _) | (with_reducible refine cn_ ?_ _) | (with_reducible refine cd_ ?_))); (case side2 => exact (rr_ HO185.out).2.1); rintro e w' ⟨rfl, ⟨nd, rfl⟩⟩))
       go_meet
       case rel => exact ⟨_, (false), (t186), (t187), (by first | rfl | (simp; done) | (simp [*]; done)), H', ⟨by have := HK1.out; first | omega | exact Nat.le_refl _⟩, ⟨by (with_reducible repeat (first | apply sa_ | apply sn_ | apply sd_)); exact sm_ HO_3.out (fun _ hk => hk.2)⟩, ⟨by (with_reducible repeat (first | apply ra_ | apply rn_ | apply rd_)); exact HO185.out⟩, ⟨by repeat (first | (with_reducible first | exact HI0.out | apply IsS41.alloc | apply IsS41.drewN | apply IsS41.drew | apply IsS41.set_1 | apply IsS41.set_2) | exact HI0.out)⟩, ⟨by repeat (first | (with_reducible first | exact HK.out | apply KeepBut.set_ | apply keep_drewN | apply keep_drew | apply keep_alloc) | exact HK.out)⟩, ⟨by repeat (first | (with_reducible first | exact HB.out | apply ba_ | apply pw_below_drewN | apply bd_ | refine bs_ ?_ (IsS41.ge HI0.out)) | exact HB.out)⟩⟩
     ·
      rw [if_neg c13] at H
      have c13b0 : decide (0 < (x3_1.length : Int)) = false := decide_eq_false c13
      have c13b1 : decide (0 < x3_1.length) = false := decide_eq_false (by omega)
      clear c13
      (first | rw [c13b0] | (simp only [i64_w, i32_w]; rw [c13b0]) | skip)
      have H' := am_ H
      clear H
      obtain ⟨Ao26, co26, eo26⟩ := Kd.S_slice HO_3.out
      subst eo26
      go_wp2
      go_meet
      case rel => exact ⟨_, (false), (t186), (t187), (by first | rfl | (simp; done) | (simp [*]; done)), H', ⟨by have := HK1.out; first | omega | exact Nat.le_refl _⟩, ⟨by (with_reducible repeat (first | apply sa_ | apply sn_ | apply sd_)); exact sm_ HO_3.out (fun _ hk => hk.2)⟩, ⟨by (with_reducible repeat (first | apply ra_ | apply rn_ | apply rd_)); exact HO185.out⟩, ⟨by repeat (first | (with_reducible first | exact HI0.out | apply IsS41.alloc | apply IsS41.drewN | apply IsS41.drew | apply IsS41.set_1 | apply IsS41.set_2) | exact HI0.out)⟩, ⟨by repeat (first | (with_reducible first | exact HK.out | apply KeepBut.set_ | apply keep_drewN | apply keep_drew | apply keep_alloc) | exact HK.out)⟩, ⟨by repeat (first | (with_reducible first | exact HB.out | apply ba_ | apply pw_below_drewN | apply bd_ | refine bs_ ?_ (IsS41.ge HI0.out)) | exact HB.out)⟩⟩
    case rest =>
     clear HC11
     try clear c1
     try clear p2
     try clear c3
     try clear c9
     try clear c9b0
     try clear c13
     try clear c13b0
     try clear c13b1
     try clear c15
     try clear c16
     try clear c17
     try clear c17b0
     try clear p2
     obtain ⟨kq, x34_10, x1001_10, x1002_10, rfl, HA, HJ10, HO_3, HO_6, HI0, HK, HB⟩ := hcut
     cases kq with
     | zero => exact absurd HA.out (by simp [spec_l1Cur_goods.j1])
     | succ kj10 =>
      have H := HA.out
      clear HA
      simp only [spec_l1Cur_goods.j1] at H
      have HC27 := am_ H
      clear H
      go_upto_if 34 with (fail)
      go_cut [] (fun wc => ∃ (kq : Nat) (x6_26 : List Int), Aside0 (spec_l1Cur_goods.j2 kq x3_1 x4_1 x5_1 x6_26 s0_0 x1001_10 x1002_10 = some (r1, r2, r3)) ∧ Aside0 (kq ≤ kj10) ∧ Aside0 (Kd.S (Kd.slice 3 (Kd.int .i64)) 25 wc w.heap.size (fun k_ => some k_ ≠ (v184 : Value).ownBlock) u3 x3_1) ∧ Aside0 (Kd.R (Kd.int .i64) 3 wc w.heap.size (fun _ => True) v184 x6_26) ∧ Aside0 (IsS41 w0 wc g s0_0 x1001_10 x1002_10) ∧ Aside0 (KeepBut w wc g none) ∧ Aside0 (Below w0.heap.size w0 wc))
      case first =>
       have H := HC27.out
       clear HC27
       by_cases c28 : x34_10 = true
       ·
        subst c28
        have H1 : (if 0 < (t183.length : Int) then ((spec_l5Total.f kj10 t183).bind fun t194 => ((spec_l1Least.f 1000 (wrap64 ((wrap64 ((rd t183 0) + x4_1)) - t194))).bind fun t195 => (spec_l1Cur_goods.j2 kj10 x3_1 x4_1 x5_1 (t183.set (0 : Int).toNat t195) s0_0 x1001_10 x1002_10))) else (none)) = some (r1, r2, r3) := by rw [if_pos rfl] at H; exact H
        clear H
        have H := H1
        clear H1
        by_cases c29 : 0 < (t183.length : Int)
        ·
         rw [if_pos c29] at H
         have c29b0 : decide (0 < (t183.length : Int)) = true := decide_eq_true c29
         have c29b1 : decide (0 < t183.length) = true := decide_eq_true (by omega)
         clear c29
         (first | rw [c29b0] | (simp only [i64_w, i32_w]; rw [c29b0]) | skip)
         replace H := Option.bind_eq_some_iff.mp H
         obtain ⟨t194, A300, H⟩ := H
         replace H : ((spec_l1Least.f 1000 (wrap64 ((wrap64 ((rd t183 0) + x4_1)) - t194))).bind fun t195 => (spec_l1Cur_goods.j2 kj10 x3_1 x4_1 x5_1 (t183.set (0 : Int).toNat t195) s0_0 x1001_10 x1002_10)) = some (r1, r2, r3) := H
         have A30 := am_ A300
         clear A300
         replace H := Option.bind_eq_some_iff.mp H
         obtain ⟨t195, A310, H⟩ := H
         replace H : (spec_l1Cur_goods.j2 kj10 x3_1 x4_1 x5_1 (t183.set (0 : Int).toNat t195) s0_0 x1001_10 x1002_10) = some (r1, r2, r3) := H
         have A31 := am_ A310
         clear A310
         obtain ⟨y196, hy196⟩ : ∃ y_ : List Int, y_ = (t183.set (0 : Int).toNat t195) := ⟨_, rfl⟩
         replace H : (spec_l1Cur_goods.j2 kj10 x3_1 x4_1 x5_1 y196 s0_0 x1001_10 x1002_10) = some (r1, r2, r3) := by first | (rw [hy196]; with_reducible exact H) | (have H2_ := (Option.bind_some _ _).symm.trans H; rw [hy196]; with_reducible exact H2_) | (have H2_ := (Option.bind_some _ _).symm.trans H; with_reducible exact H2_) | with_reducible exact H | (rw [hy196]; exact H) | exact H
         have Ny196 := am_ hy196
         clear hy196
         have H' := am_ H
         clear H
         try go_wp2
         have n0_ := am_ (sd_ HO_3.out)
         have n1_ := am_ (rd_ HO_6.out)
         have n2_ := am_ (IsS41.drew HI0.out)
         have n3_ := am_ (keep_drew HK.out)
         have n4_ := am_ (bd_ HB.out)
         clear HO_3
         clear HO_6
         clear HI0
         clear HK
         clear HB
         have HO_3 := n0_
         have HO_6 := n1_
         have HI0 := n2_
         have HK := n3_
         have HB := n4_
         clear n0_ n1_ n2_ n3_ n4_
         obtain ⟨Ao34, co34, eo34⟩ := rs_ HO_6.out
         (first | subst eo34 | (injection eo34 with f1_ f2_ f3_; have f4_ := f1_.symm; have f5_ := f3_.symm; clear f1_ f2_ f3_; subst f4_; subst f5_))
         have p193 : 0 ≤ (0 : Int) := (by omega)
         have q193 : 0 < (t183.length : Int) := of_decide_eq_true (by first | (with_reducible assumption) | assumption)
         obtain ⟨ad193, e193, hx193_0⟩ := Kd.at_int (rr_ HO_6.out).2.2 0 p193 q193
         cases e193
         have qi193 : (0 < t183.length) = True := eq_true (by omega)
         (try rw [show ((0 : Int)).toNat = 0 from rfl] at hx193_0)
         (try rw [Addr.add_zero'] at hx193_0)
         replace p193 := eq_true p193
         replace q193 := eq_true q193
         refine start_ (n := 12) (S := fun w' => w'.cell? ad193 = some (.int .i64 (rd t183 0))) (ds := [11]) #[false, false, false, false, false, false, false, false, false, false, false, false] (by kernel_rfl) rfl rfl (hx193_0) (fun hHeld => ?_); refine with_tabW spec_l1Cur_goods.tab8 spec_l1Cur_goods.bits8 (fun HT_ HW_ => ?_)
         generalize wc.drew = w33 at HO_3 HO_6 HI0 HK HB hx193_0 hHeld ⊢
         refine pure_ (i := 0) (N := some 35) (v := ?_) (a' := ?_) #[true, false, false, false, false, false, false, false, false, false, false, false] rfl rfl (any_of HT_.out (by kernel_rfl)) (fun _ _ _ h => h) (Or.inl ⟨by rfl, ?_⟩) ?_ ?_
         rotate_left
         ·
          intro w'
          go_simp
          with_reducible rfl
         rotate_left
         ·
          simp only [Act.put, List.setIfInBounds_toArray, List.set_cons_zero, List.set_cons_succ, i64_w, i32_w]
          rfl
         refine pure_ (i := 1) (N := some 36) (v := ?_) (a' := ?_) #[true, true, false, false, false, false, false, false, false, false, false, false] rfl rfl (any_of HT_.out (by kernel_rfl)) (fun _ _ _ h => h) (Or.inl ⟨by rfl, ?_⟩) ?_ ?_
         rotate_left
         ·
          intro w'
          go_simp
          with_reducible rfl
         rotate_left
         ·
          simp only [Act.put, List.setIfInBounds_toArray, List.set_cons_zero, List.set_cons_succ, i64_w, i32_w]
          rfl
         refine pure_ (i := 2) (N := some 37) (v := ?_) (a' := ?_) #[true, true, true, false, false, false, false, false, false, false, false, false] rfl rfl (any_of HT_.out (by kernel_rfl)) (fun _ _ _ h => h) (Or.inl ⟨by rfl, ?_⟩) ?_ ?_
         rotate_left
         ·
          intro w'
          go_simp
          with_reducible rfl
         rotate_left
         ·
          simp only [Act.put, List.setIfInBounds_toArray, List.set_cons_zero, List.set_cons_succ, i64_w, i32_w]
          rfl
         refine pure_ (i := 4) (N := some 39) (v := ?_) (a' := ?_) #[true, true, true, false, true, false, false, false, false, false, false, false] rfl rfl (any_of HT_.out (by kernel_rfl)) (fun _ _ _ h => h) (Or.inl ⟨by rfl, ?_⟩) ?_ ?_
         rotate_left
         ·
          intro w'
          go_simp
          with_reducible rfl
         rotate_left
         ·
          simp only [Act.put, List.setIfInBounds_toArray, List.set_cons_zero, List.set_cons_succ, i64_w, i32_w]
          rfl
         refine pure_ (i := 6) (N := some 41) (v := ?_) (a' := ?_) #[true, true, true, false, true, false, true, false, false, false, false, false] rfl rfl (any_of HT_.out (by kernel_rfl)) (fun _ _ _ h => h) (Or.inl ⟨by rfl, ?_⟩) ?_ ?_
         rotate_left
         ·
          intro w'
          go_simp
          with_reducible rfl
         rotate_left
         ·
          simp only [Act.put, List.setIfInBounds_toArray, List.set_cons_zero, List.set_cons_succ, i64_w, i32_w]
          rfl
         refine take_ (i := 3) (N := some 38) (v := ?_) (a' := ?_) #[true, true, true, true, true, false, true, false, false, false, false, false] rfl rfl (take_ofW HT_.out HW_.out (by kernel_rfl)) (fun _ _ _ h => h) (Or.inl ⟨by rfl, ?_⟩) hHeld ?_ ?_
         rotate_left
         ·
          intro w' s0
          go_simp
          with_reducible rfl
         rotate_left
         ·
          simp only [Act.put, List.setIfInBounds_toArray, List.set_cons_zero, List.set_cons_succ, i64_w, i32_w]
          rfl
         refine pure_ (i := 5) (N := some 40) (v := ?_) (a' := ?_) #[true, true, true, true, true, true, true, false, false, false, false, false] rfl rfl (any_of HT_.out (by kernel_rfl)) (fun _ _ _ h => h) (Or.inl ⟨by rfl, ?_⟩) ?_ ?_
         rotate_left
         ·
          intro w'
          go_simp
          with_reducible rfl
         rotate_left
         ·
          simp only [Act.put, List.setIfInBounds_toArray, List.set_cons_zero, List.set_cons_succ, i64_w, i32_w]
          rfl
         refine one_ (i := 7) (N := some 42) #[true, true, true, true, true, true, true, true, false, false, false, false] rfl rfl (one_of HT_.out (by kernel_rfl)) (by decide) (fun K hK => ?_)
         refine goes_ Try.func37 (by kernel_rfl) rfl #[.slice (some ad193) t183.length co34] (by rfl) rfl rfl (by (try simp only [List.map_toArray, List.map_cons, List.map_nil]); first | done | rfl | (simp only [List.length_drop, List.length_take]; rfl)) ?_
         with_reducible refine (spec_l5Total.calls kj10 _ _ t183 t194 _ ?side1 ?side2 A30.out).mono ?_
         (case side1 => repeat (first | exact (rr_ HO_6.out).2.2 | (with_reducible refine ca_ ?_ _) | (with_reducible refine cn_ ?_ _) | (with_reducible refine cd_ ?_)))
         (case side2 => exact (rr_ HO_6.out).2.1)
         rintro e w' ⟨rfl, ⟨nd, rfl⟩⟩
         refine ⟨_, rfl, ?_⟩
         refine hK.out _ _ (hHeld) (fun hHeld => ?_)
         clear hK K
         refine norm_ (a' := ?_) ?_ ?_
         rotate_left
         ·
          show Act.put _ (some 42) _ = _
          simp only [Act.put, List.setIfInBounds_toArray, List.set_cons_zero, List.set_cons_succ, i64_w, i32_w]
          rfl
         refine pure_ (i := 8) (N := some 43) (v := ?_) (a' := ?_) #[true, true, true, true, true, true, true, true, true, false, false, false] rfl rfl (any_of HT_.out (by kernel_rfl)) (fun _ _ _ h => h) (Or.inl ⟨by rfl, ?_⟩) ?_ ?_
         rotate_left
         ·
          intro w'
          go_simp
          with_reducible rfl
         rotate_left
         ·
          simp only [Act.put, List.setIfInBounds_toArray, List.set_cons_zero, List.set_cons_succ, i64_w, i32_w]
          rfl
         refine one_ (i := 9) (N := some 44) #[true, true, true, true, true, true, true, true, true, true, false, false] rfl rfl (one_of HT_.out (by kernel_rfl)) (by decide) (fun K hK => ?_)
         refine goes_ Try.func38 (by kernel_rfl) rfl #[.int .i64 1000, .int .i64 (wrap64 ((wrap64 ((rd t183 0) + x4_1)) - t194))] (by rfl) rfl rfl (by (try simp only [List.map_toArray, List.map_cons, List.map_nil]); first | done | rfl | (simp only [List.length_drop, List.length_take]; rfl)) ?_
         with_reducible refine (spec_l1Least.calls 1000 (wrap64 ((wrap64 ((rd t183 0) + x4_1)) - t194)) t195 _ A31.out).mono ?_
         rintro e w' ⟨rfl, ⟨nd, rfl⟩⟩
         refine ⟨_, rfl, ?_⟩
         have p32 : 0 ≤ (0 : Int) := (by omega)
         have q32 : (0 : Int) < ((t183.length : Int) : Int) := of_decide_eq_true (by first | (with_reducible assumption) | assumption)
         have qi32 : (0 < t183.length) = True := eq_true (by omega)
         obtain ⟨go32, co32, eo32, gb32, gl32, cl32, HG32⟩ := Kd.R_form HO_6.out (by omega)
         (first | cases eo32 | (injection eo32 with ea_ en_ ec_; (first | subst ea_ | (injection ea_ with ea_; subst ea_)); subst ec_; clear en_))
         have GB32 := am_ gb32
         have GG32 := am_ HG32
         clear gb32 gl32 HG32
         (first | simp only [add_plain] at hx193_0 | skip)
         obtain ⟨hx32_0, hf32_0⟩ := Kd.R_celln 0 HO_6.out (0 : Int) p32 q32
         (try rw [show ((0 : Int)).toNat = 0 from rfl] at hx32_0)
         (try simp only [Nat.reduceMul, Nat.zero_mul, Nat.zero_add, Nat.reduceAdd] at hx32_0)
         (try rw [show ((0 : Int)).toNat = 0 from rfl] at hf32_0)
         (try simp only [Nat.reduceMul, Nat.zero_mul, Nat.zero_add, Nat.reduceAdd] at hf32_0)
         replace p32 := eq_true p32
         replace q32 := eq_true q32
         have HN0_go32 := am_ (show g ≠ go32 from by have h_ := IsS41.own_ne HI0.out HO_6.out (by decide); intro e_; exact h_ (by rw [e_]; rfl))
         have HP35 := Kd.R_putn HO_6.out (0 : Int) t195
         rw [← Ny196.out] at HP35
         have HQ35 := am_ HP35
         clear HP35
         refine hK.out _ _ (hHeld) (fun hHeld => ?_)
         clear hK K
         refine norm_ (a' := ?_) ?_ ?_
         rotate_left
         ·
          show Act.put _ (some 44) _ = _
          simp only [Act.put, List.setIfInBounds_toArray, List.set_cons_zero, List.set_cons_succ, i64_w, i32_w]
          rfl
         refine pure_ (i := 10) (N := some 45) (v := ?_) (a' := ?_) #[true, true, true, true, true, true, true, true, true, true, true, false] rfl rfl (any_of HT_.out (by kernel_rfl)) (fun _ _ _ h => h) (Or.inl ⟨by rfl, ?_⟩) ?_ ?_
         rotate_left
         ·
          intro w'
          go_simp
          with_reducible rfl
         rotate_left
         ·
          simp only [Act.put, List.setIfInBounds_toArray, List.set_cons_zero, List.set_cons_succ, i64_w, i32_w]
          rfl
         refine last_ (i := 11) (N := none) #[true, true, true, true, true, true, true, true, true, true, true, true] rfl rfl (one_of HT_.out (by kernel_rfl)) (by decide) (fun K hK => ?_)
         refine skip_ (w1 := ?_) (by rfl) rfl ?_ ?_
         rotate_left
         ·
          go_simp
          rfl
         refine hK.out _ _ ?_
         clear hK K
         refine done_ (done_of HT_.out (by kernel_rfl)) ?_
         try go_wp2
         go_meet
         case rel => exact ⟨_, (y196), H', ⟨by have := HK1.out; have := HJ10.out; first | omega | exact Nat.le_refl _⟩, ⟨by (with_reducible repeat (first | apply sa_ | apply sn_ | apply sd_)); exact sm_ (Kd.S_far (p := ⟨go32, 0, none⟩) (sm_ HO_3.out (fun k_ hk => (⟨hk, fun e_ => hk (by rw [e_]; rfl)⟩ : _ ∧ k_ ≠ go32))) (fun _ hk => hk.2) (.int .i64 t195)) (fun _ hk => hk.1)⟩, ⟨by (with_reducible repeat (first | apply ra_ | apply rn_ | apply rd_)); exact HQ35.out⟩, ⟨by repeat (first | (with_reducible first | exact HI0.out | apply IsS41.alloc | apply IsS41.drewN | apply IsS41.drew | apply IsS41.set_1 | apply IsS41.set_2 | refine IsS41.far ?_ HN0_go32.out _) | exact HI0.out)⟩, ⟨by repeat (first | (with_reducible first | exact HK.out | apply KeepBut.set_ | apply keep_drewN | apply keep_drew | apply keep_alloc | refine keep_far ?_ GB32.out _) | exact HK.out)⟩, ⟨by repeat (first | (with_reducible first | exact HB.out | apply ba_ | apply pw_below_drewN | apply bd_ | refine bs_ ?_ (Nat.le_trans HL.out GB32.out) | refine bs_ ?_ (IsS41.ge HI0.out)) | exact HB.out)⟩⟩
        ·
         rw [if_neg c29] at H
         exact absurd H (by simp)
       ·
        replace c28 := Bool.eq_false_iff.mpr c28
        subst c28
        have H1 : (spec_l1Cur_goods.j2 kj10 x3_1 x4_1 x5_1 t183 s0_0 x1001_10 x1002_10) = some (r1, r2, r3) := by rw [if_neg (show ¬ (false = true) by decide)] at H; exact H
        clear H
        have H := H1
        clear H1
        have H' := am_ H
        clear H
        go_wp2
        go_meet
        case rel => exact ⟨_, (t183), H', ⟨by have := HK1.out; have := HJ10.out; first | omega | exact Nat.le_refl _⟩, ⟨by (with_reducible repeat (first | apply sa_ | apply sn_ | apply sd_)); exact HO_3.out⟩, ⟨by (with_reducible repeat (first | apply ra_ | apply rn_ | apply rd_)); exact HO_6.out⟩, ⟨by repeat (first | (with_reducible first | exact HI0.out | apply IsS41.alloc | apply IsS41.drewN | apply IsS41.drew | apply IsS41.set_1 | apply IsS41.set_2) | exact HI0.out)⟩, ⟨by repeat (first | (with_reducible first | exact HK.out | apply KeepBut.set_ | apply keep_drewN | apply keep_drew | apply keep_alloc) | exact HK.out)⟩, ⟨by repeat (first | (with_reducible first | exact HB.out | apply ba_ | apply pw_below_drewN | apply bd_ | refine bs_ ?_ (IsS41.ge HI0.out)) | exact HB.out)⟩⟩
      case rest =>
       clear HC27
       try clear c1
       try clear p1
       try clear q1
       try clear hx1
       try clear qi1
       try clear c2
       try clear p2
       try clear c3
       try clear p3
       try clear q3
       try clear hx3
       try clear qi3
       try clear hf3
       try clear p6
       try clear c9
       try clear c9b0
       try clear c13
       try clear c13b0
       try clear c13b1
       try clear c15
       try clear c16
       try clear c17
       try clear c17b0
       try clear p19
       try clear q19
       try clear hx19
       try clear qi19
       try clear c28
       try clear c29
       try clear c29b0
       try clear c29b1
       try clear p32
       try clear q32
       try clear hx32
       try clear qi32
       try clear hf32
       try clear c35
       try clear hx193_0
       try clear hx32_0
       try clear p193
       try clear p2
       try clear p32
       try clear q193
       try clear q32
       obtain ⟨kq, x6_26, HA, HJ26, HO_3, HO_6, HI0, HK, HB⟩ := hcut
       cases kq with
       | zero => exact absurd HA.out (by simp [spec_l1Cur_goods.j2])
       | succ kj26 =>
        have H := HA.out
        clear HA
        simp only [spec_l1Cur_goods.j2] at H
        have HC36 := am_ H
        clear H
        go_upto_region 9 with (fail)
        go_cut [63] (fun v63 wc => ∃ (kq : Nat) (x63_35 : Bool) (x1001_35 : Int) (x1002_35 : Int), v63 = .bool x63_35 ∧ Aside0 (spec_l1Cur_goods.j3 kq x3_1 x5_1 x6_26 x63_35 s0_0 x1001_35 x1002_35 = some (r1, r2, r3)) ∧ Aside0 (kq ≤ kj26) ∧ Aside0 (Kd.S (Kd.slice 3 (Kd.int .i64)) 25 wc w.heap.size (fun k_ => some k_ ≠ (v184 : Value).ownBlock) u3 x3_1) ∧ Aside0 (Kd.R (Kd.int .i64) 3 wc w.heap.size (fun _ => True) v184 x6_26) ∧ Aside0 (IsS41 w0 wc g s0_0 x1001_35 x1002_35) ∧ Aside0 (KeepBut w wc g none) ∧ Aside0 (Below w0.heap.size w0 wc))
        case first =>
         have H := HC36.out
         clear HC36
         by_cases c37 : (x3_1.length : Int) > 0
         ·
          rw [if_pos c37] at H
          have c37b0 : decide (0 < (x3_1.length : Int)) = true := decide_eq_true c37
          have c37b1 : decide (0 < x3_1.length) = true := decide_eq_true (by omega)
          clear c37
          (first | rw [c37b0] | (simp only [i64_w, i32_w]; rw [c37b0]) | skip)
          replace H := Option.bind_eq_some_iff.mp H
          obtain ⟨t197, A380, H⟩ := H
          replace H : (if t197 = true then ((spec_l5Total.f kj26 x6_26).bind fun t198 => (if t198 = x4_1 then (spec_l1Cur_goods.j3 kj26 x3_1 x5_1 x6_26 false s0_0 x1001_10 x1002_10) else ((spec_l1Cur_one.f s0_0 x1001_10 x1002_10 12).bind fun bt199 => (spec_l1Cur_goods.j3 kj26 x3_1 x5_1 x6_26 (!bt199.1) s0_0 bt199.2.1 bt199.2.2)))) else (spec_l1Cur_goods.j3 kj26 x3_1 x5_1 x6_26 false s0_0 x1001_10 x1002_10)) = some (r1, r2, r3) := H
          have A38 := am_ A380
          clear A380
          by_cases c39 : t197 = true
          ·
           subst c39
           have H1 : ((spec_l5Total.f kj26 x6_26).bind fun t198 => (if t198 = x4_1 then (spec_l1Cur_goods.j3 kj26 x3_1 x5_1 x6_26 false s0_0 x1001_10 x1002_10) else ((spec_l1Cur_one.f s0_0 x1001_10 x1002_10 12).bind fun bt199 => (spec_l1Cur_goods.j3 kj26 x3_1 x5_1 x6_26 (!bt199.1) s0_0 bt199.2.1 bt199.2.2)))) = some (r1, r2, r3) := by rw [if_pos rfl] at H; exact H
           clear H
           have H := H1
           clear H1
           replace H := Option.bind_eq_some_iff.mp H
           obtain ⟨t198, A400, H⟩ := H
           replace H : (if t198 = x4_1 then (spec_l1Cur_goods.j3 kj26 x3_1 x5_1 x6_26 false s0_0 x1001_10 x1002_10) else ((spec_l1Cur_one.f s0_0 x1001_10 x1002_10 12).bind fun bt199 => (spec_l1Cur_goods.j3 kj26 x3_1 x5_1 x6_26 (!bt199.1) s0_0 bt199.2.1 bt199.2.2))) = some (r1, r2, r3) := H
           have A40 := am_ A400
           clear A400
           by_cases c41 : t198 = x4_1
           ·
            rw [if_pos c41] at H
            have c41b0 : (t198 == x4_1) = true := beq_iff_eq.mpr c41
            have c41b1 : (t198 != x4_1) = false := bne_eq_false_iff_eq.mpr c41
            clear c41
            have H' := am_ H
            clear H
            obtain ⟨Ao42, co42, eo42⟩ := Kd.S_slice HO_3.out
            subst eo42
            obtain ⟨Ao43, co43, eo43⟩ := rs_ HO_6.out
            subst eo43
            go_wp2_with (first | (go_at_call 36; (with_reducible refine (spec_l5Good.calls kj26 _ _ x6_26 true _ ?side1 ?side2 A38.out).mono ?_); (case side1 => repeat (first | exact (rr_ HO_6.out).2.2 | (with_reducible refine ca_ ?_ _) | (with_reducible refine cn_ ?_ _) | (with_reducible refine cd_ ?_))); (case side2 => exact (rr_ HO_6.out).2.1); rintro e w' ⟨rfl, ⟨nd, rfl⟩⟩) | (go_at_call 37; (with_reducible refine (spec_l5Total.calls kj26 _ _ x6_26 t198 _ ?side1 ?side2 A40.out).mono ?_); (case side1 => repeat (first | exact (rr_ HO_6.out).2.2 | (with_reducible refine ca_ ?_ _) | (with_reducible refine cn_ ?_ _) | (with_reducible refine cd_ ?_))); (case side2 => exact (rr_ HO_6.out).2.1); rintro e w' ⟨rfl, ⟨nd, rfl⟩⟩))
            go_meet
            case rel => exact ⟨_, (false), (x1001_10), (x1002_10), (by first | rfl | (simp; done) | (simp [*]; done)), H', ⟨by have := HK1.out; have := HJ10.out; have := HJ26.out; first | omega | exact Nat.le_refl _⟩, ⟨by (with_reducible repeat (first | apply sa_ | apply sn_ | apply sd_)); exact HO_3.out⟩, ⟨by (with_reducible repeat (first | apply ra_ | apply rn_ | apply rd_)); exact HO_6.out⟩, ⟨by repeat (first | (with_reducible first | exact HI0.out | apply IsS41.alloc | apply IsS41.drewN | apply IsS41.drew | apply IsS41.set_1 | apply IsS41.set_2) | exact HI0.out)⟩, ⟨by repeat (first | (with_reducible first | exact HK.out | apply KeepBut.set_ | apply keep_drewN | apply keep_drew | apply keep_alloc) | exact HK.out)⟩, ⟨by repeat (first | (with_reducible first | exact HB.out | apply ba_ | apply pw_below_drewN | apply bd_ | refine bs_ ?_ (IsS41.ge HI0.out)) | exact HB.out)⟩⟩
           ·
            rw [if_neg c41] at H
            have c41b0 : (t198 == x4_1) = false := beq_eq_false_iff_ne.mpr c41
            have c41b1 : (t198 != x4_1) = true := bne_iff_ne.mpr c41
            replace H := Option.bind_eq_some_iff.mp H
            obtain ⟨⟨t199, t200, t201⟩, A440, H⟩ := H
            replace H : (spec_l1Cur_goods.j3 kj26 x3_1 x5_1 x6_26 (!t199) s0_0 t200 t201) = some (r1, r2, r3) := H
            have A44 := am_ A440
            clear A440
            have H' := am_ H
            clear H
            obtain ⟨Ao45, co45, eo45⟩ := Kd.S_slice HO_3.out
            subst eo45
            obtain ⟨Ao46, co46, eo46⟩ := rs_ HO_6.out
            subst eo46
            go_wp2_with (first | (go_at_call 36; (with_reducible refine (spec_l5Good.calls kj26 _ _ x6_26 true _ ?side1 ?side2 A38.out).mono ?_); (case side1 => repeat (first | exact (rr_ HO_6.out).2.2 | (with_reducible refine ca_ ?_ _) | (with_reducible refine cn_ ?_ _) | (with_reducible refine cd_ ?_))); (case side2 => exact (rr_ HO_6.out).2.1); rintro e w' ⟨rfl, ⟨nd, rfl⟩⟩) | (go_at_call 37; (with_reducible refine (spec_l5Total.calls kj26 _ _ x6_26 t198 _ ?side1 ?side2 A40.out).mono ?_); (case side1 => repeat (first | exact (rr_ HO_6.out).2.2 | (with_reducible refine ca_ ?_ _) | (with_reducible refine cn_ ?_ _) | (with_reducible refine cd_ ?_))); (case side2 => exact (rr_ HO_6.out).2.1); rintro e w' ⟨rfl, ⟨nd, rfl⟩⟩) | (go_at_call 17; (with_reducible refine (spec_l1Cur_one.calls g s0_0 x1001_10 x1002_10 12 t199 t200 t201 w0 _ ?side1 ?side2 A44.out).mono ?_); (case side1 => repeat (first | (with_reducible first | exact HI0.out | apply IsS41.alloc | apply IsS41.drewN | apply IsS41.drew | apply IsS41.set_1 | apply IsS41.set_2) | exact HI0.out)); (case side2 => repeat (first | (with_reducible first | exact HB.out | apply ba_ | apply pw_below_drewN | apply bd_ | refine bs_ ?_ (IsS41.ge HI0.out)) | exact HB.out)); rintro e w47 ⟨rfl, hi, hb, hk⟩; have n0_ := am_ (sm_ (Kd.S_keep (IsS41.apartS (show IsS41 w0 _ g s0_0 x1001_10 x1002_10 from by repeat (first | (with_reducible first | exact HI0.out | apply IsS41.alloc | apply IsS41.drewN | apply IsS41.drew | apply IsS41.set_1 | apply IsS41.set_2) | exact HI0.out)) (by (with_reducible repeat (first | apply sa_ | apply sn_ | apply sd_)); exact HO_3.out) (by decide)) hk (fun _ h => h.2)) (fun _ h => h.1)); have n1_ := am_ (rm_ (Kd.R_keep (IsS41.apart (show IsS41 w0 _ g s0_0 x1001_10 x1002_10 from by repeat (first | (with_reducible first | exact HI0.out | apply IsS41.alloc | apply IsS41.drewN | apply IsS41.drew | apply IsS41.set_1 | apply IsS41.set_2) | exact HI0.out)) (by (with_reducible repeat (first | apply ra_ | apply rn_ | apply rd_)); exact HO_6.out) (by decide)) hk (fun _ h => h.2)) (fun _ h => h.1)); have n2_ := am_ (KeepBut.trans (by repeat (first | (with_reducible first | exact HK.out | apply KeepBut.set_ | apply keep_drewN | apply keep_drew | apply keep_alloc) | exact HK.out)) hk (.inl rfl)); have n3_ := am_ (hb); have n4_ := am_ (hi); clear HO_3; clear HO_6; clear HK; clear HB; clear HI0; have HO_3 := n0_; have HO_6 := n1_; have HK := n2_; have HB := n3_; have HI0 := n4_; clear n0_ n1_ n2_ n3_ n4_; (try clear hb); (try clear hb2); (try clear hk); (try clear hi)))
            go_meet
            case rel => exact ⟨_, (!t199), (t200), (t201), (by first | rfl | (simp; done) | (simp [*]; done)), H', ⟨by have := HK1.out; have := HJ10.out; have := HJ26.out; first | omega | exact Nat.le_refl _⟩, ⟨by (with_reducible repeat (first | apply sa_ | apply sn_ | apply sd_)); exact HO_3.out⟩, ⟨by (with_reducible repeat (first | apply ra_ | apply rn_ | apply rd_)); exact HO_6.out⟩, ⟨by repeat (first | (with_reducible first | exact HI0.out | apply IsS41.alloc | apply IsS41.drewN | apply IsS41.drew | apply IsS41.set_1 | apply IsS41.set_2) | exact HI0.out)⟩, ⟨by repeat (first | (with_reducible first | exact HK.out | apply KeepBut.set_ | apply keep_drewN | apply keep_drew | apply keep_alloc) | exact HK.out)⟩, ⟨by repeat (first | (with_reducible first | exact HB.out | apply ba_ | apply pw_below_drewN | apply bd_ | refine bs_ ?_ (IsS41.ge HI0.out)) | exact HB.out)⟩⟩
          ·
           replace c39 := Bool.eq_false_iff.mpr c39
           subst c39
           have H1 : (spec_l1Cur_goods.j3 kj26 x3_1 x5_1 x6_26 false s0_0 x1001_10 x1002_10) = some (r1, r2, r3) := by rw [if_neg (show ¬ (false = true) by decide)] at H; exact H
           clear H
           have H := H1
           clear H1
           have H' := am_ H
           clear H
           obtain ⟨Ao48, co48, eo48⟩ := Kd.S_slice HO_3.out
           subst eo48
           obtain ⟨Ao49, co49, eo49⟩ := rs_ HO_6.out
           subst eo49
           go_wp2_with (first | (go_at_call 36; (with_reducible refine (spec_l5Good.calls kj26 _ _ x6_26 false _ ?side1 ?side2 A38.out).mono ?_); (case side1 => repeat (first | exact (rr_ HO_6.out).2.2 | (with_reducible refine ca_ ?_ _) | (with_reducible refine cn_ ?_ _) | (with_reducible refine cd_ ?_))); (case side2 => exact (rr_ HO_6.out).2.1); rintro e w' ⟨rfl, ⟨nd, rfl⟩⟩))
           go_meet
           case rel => exact ⟨_, (false), (x1001_10), (x1002_10), (by first | rfl | (simp; done) | (simp [*]; done)), H', ⟨by have := HK1.out; have := HJ10.out; have := HJ26.out; first | omega | exact Nat.le_refl _⟩, ⟨by (with_reducible repeat (first | apply sa_ | apply sn_ | apply sd_)); exact HO_3.out⟩, ⟨by (with_reducible repeat (first | apply ra_ | apply rn_ | apply rd_)); exact HO_6.out⟩, ⟨by repeat (first | (with_reducible first | exact HI0.out | apply IsS41.alloc | apply IsS41.drewN | apply IsS41.drew | apply IsS41.set_1 | apply IsS41.set_2) | exact HI0.out)⟩, ⟨by repeat (first | (with_reducible first | exact HK.out | apply KeepBut.set_ | apply keep_drewN | apply keep_drew | apply keep_alloc) | exact HK.out)⟩, ⟨by repeat (first | (with_reducible first | exact HB.out | apply ba_ | apply pw_below_drewN | apply bd_ | refine bs_ ?_ (IsS41.ge HI0.out)) | exact HB.out)⟩⟩
         ·
          rw [if_neg c37] at H
          have c37b0 : decide (0 < (x3_1.length : Int)) = false := decide_eq_false c37
          have c37b1 : decide (0 < x3_1.length) = false := decide_eq_false (by omega)
          clear c37
          (first | rw [c37b0] | (simp only [i64_w, i32_w]; rw [c37b0]) | skip)
          have H' := am_ H
          clear H
          obtain ⟨Ao50, co50, eo50⟩ := Kd.S_slice HO_3.out
          subst eo50
          go_wp2
          go_meet
          case rel => exact ⟨_, (false), (x1001_10), (x1002_10), (by first | rfl | (simp; done) | (simp [*]; done)), H', ⟨by have := HK1.out; have := HJ10.out; have := HJ26.out; first | omega | exact Nat.le_refl _⟩, ⟨by (with_reducible repeat (first | apply sa_ | apply sn_ | apply sd_)); exact HO_3.out⟩, ⟨by (with_reducible repeat (first | apply ra_ | apply rn_ | apply rd_)); exact HO_6.out⟩, ⟨by repeat (first | (with_reducible first | exact HI0.out | apply IsS41.alloc | apply IsS41.drewN | apply IsS41.drew | apply IsS41.set_1 | apply IsS41.set_2) | exact HI0.out)⟩, ⟨by repeat (first | (with_reducible first | exact HK.out | apply KeepBut.set_ | apply keep_drewN | apply keep_drew | apply keep_alloc) | exact HK.out)⟩, ⟨by repeat (first | (with_reducible first | exact HB.out | apply ba_ | apply pw_below_drewN | apply bd_ | refine bs_ ?_ (IsS41.ge HI0.out)) | exact HB.out)⟩⟩
        case rest =>
         clear HC36
         try clear c1
         try clear p1
         try clear q1
         try clear hx1
         try clear qi1
         try clear c2
         try clear p2
         try clear c3
         try clear p3
         try clear q3
         try clear hx3
         try clear qi3
         try clear hf3
         try clear c4
         try clear p6
         try clear c9
         try clear c9b0
         try clear c13
         try clear c13b0
         try clear c13b1
         try clear c15
         try clear c16
         try clear c17
         try clear c17b0
         try clear p19
         try clear q19
         try clear hx19
         try clear qi19
         try clear c28
         try clear c29
         try clear c29b0
         try clear c29b1
         try clear p32
         try clear q32
         try clear hx32
         try clear qi32
         try clear hf32
         try clear c35
         try clear c37
         try clear c37b0
         try clear c37b1
         try clear c38
         try clear c39
         try clear c41
         try clear c41b0
         try clear c41b1
         try clear hx193_0
         try clear hx32_0
         try clear p1
         try clear p19
         try clear p193
         try clear p2
         try clear p3
         try clear p32
         try clear p6
         try clear q1
         try clear q19
         try clear q193
         try clear q3
         try clear q32
         obtain ⟨kq, x63_35, x1001_35, x1002_35, rfl, HA, HJ35, HO_3, HO_6, HI0, HK, HB⟩ := hcut
         cases kq with
         | zero => exact absurd HA.out (by simp [spec_l1Cur_goods.j3])
         | succ kj35 =>
          have H := HA.out
          clear HA
          simp only [spec_l1Cur_goods.j3] at H
          by_cases c51 : x63_35 = true
          ·
           subst c51
           have H1 : (if 0 < (x3_1.length : Int) then ((spec_l1Own.f (rd_L2 x3_1 0)).bind fun t203 => ((spec_l5Total.f kj35 t203).bind fun t206 => (if x3_1.length < 5864062014805 then (spec_l1Cur_goods.l0 kj35 (x3_1 ++ [t203]) t206 (wrap64 (x5_1 - 1)) s0_0 x1001_35 x1002_35) else (none)))) else (none)) = some (r1, r2, r3) := by rw [if_pos rfl] at H; exact H
           clear H
           have H := H1
           clear H1
           by_cases c52 : 0 < (x3_1.length : Int)
           ·
            rw [if_pos c52] at H
            have c52b0 : decide (0 < (x3_1.length : Int)) = true := decide_eq_true c52
            have c52b1 : decide (0 < x3_1.length) = true := decide_eq_true (by omega)
            clear c52
            replace H := Option.bind_eq_some_iff.mp H
            obtain ⟨t203, A530, H⟩ := H
            replace H : ((spec_l5Total.f kj35 t203).bind fun t206 => (if x3_1.length < 5864062014805 then (spec_l1Cur_goods.l0 kj35 (x3_1 ++ [t203]) t206 (wrap64 (x5_1 - 1)) s0_0 x1001_35 x1002_35) else (none))) = some (r1, r2, r3) := H
            have A53 := am_ A530
            clear A530
            replace H := Option.bind_eq_some_iff.mp H
            obtain ⟨t206, A540, H⟩ := H
            replace H : (if x3_1.length < 5864062014805 then (spec_l1Cur_goods.l0 kj35 (x3_1 ++ [t203]) t206 (wrap64 (x5_1 - 1)) s0_0 x1001_35 x1002_35) else (none)) = some (r1, r2, r3) := H
            have A54 := am_ A540
            clear A540
            by_cases c55 : x3_1.length < 5864062014805
            ·
             rw [if_pos c55] at H
             have LMc55 := am_ c55
             clear c55
             obtain ⟨y207, hy207⟩ : ∃ y_ : List (List Int), y_ = (x3_1 ++ [t203]) := ⟨_, rfl⟩
             replace H : (spec_l1Cur_goods.l0 kj35 y207 t206 (wrap64 (x5_1 - 1)) s0_0 x1001_35 x1002_35) = some (r1, r2, r3) := by first | (rw [hy207]; with_reducible exact H) | (have H2_ := (Option.bind_some _ _).symm.trans H; rw [hy207]; with_reducible exact H2_) | (have H2_ := (Option.bind_some _ _).symm.trans H; with_reducible exact H2_) | with_reducible exact H | (rw [hy207]; exact H) | exact H
             have Ny207 := am_ hy207
             clear hy207
             have H' := am_ H
             clear H
             obtain ⟨Ao56, co56, eo56⟩ := Kd.S_slice HO_3.out
             subst eo56
             have p202 : 0 ≤ (0 : Int) := (by omega)
             have q202 : 0 < (x3_1.length : Int) := of_decide_eq_true (by first | (with_reducible assumption) | assumption)
             obtain ⟨ad202, A202_0, c202_0, e202, hx202_0, hl202_0, hi202_0⟩ := at_L2 (Kd.S_reads' HO_3.out).2.2 0 p202 q202
             cases e202
             obtain ⟨ce202, hce202, hMe202, hcc202⟩ := Kd.S_get HO_3.out [] 0 p202 (by first | exact q202 | exact of_decide_eq_true (by first | (with_reducible assumption) | assumption) | (have e_ := (Kd.S_reads' HO_3.out).1; omega))
             obtain ⟨ve202_0, rfl, ge202_0⟩ := hMe202
             have hv202_0 := hcc202 0 _ rfl
             rw [Nat.add_zero, show ((Kd.slice 3 (Kd.int .i64))).sz = 1 from rfl, Nat.mul_one] at hv202_0
             replace hv202_0 := Option.some.inj (hv202_0.symm.trans hx202_0)
             rw [hv202_0] at ge202_0
             have HL202_0 := am_ (show Kd.R (Kd.int .i64) 3 _ _ _ _ (rd_L2 x3_1 0) from ge202_0)
             clear hv202_0 ge202_0
             clear hcc202 hce202
             have qi202 : (0 < x3_1.length) = True := eq_true (by omega)
             (try rw [show ((0 : Int)).toNat = 0 from rfl] at hx202_0)
             (try rw [Addr.add_zero'] at hx202_0)
             have HR202_0 := am_ hi202_0
             have HC202_0 := am_ hl202_0
             clear hi202_0 hl202_0
             replace p202 := eq_true p202
             replace q202 := eq_true q202
             go_wp2_with (first | ((with_reducible refine gc_ (f := 39) rfl ?_); refine goesL_ (some 67) rfl rfl Try.func39 (by kernel_rfl) rfl #[.slice A202_0 (rd_L2 x3_1 0).length c202_0] rfl (by (try simp only [List.map_toArray, List.map_cons, List.map_nil]); first | done | rfl | (simp only [List.length_drop, List.length_take]; rfl)) ?_; (with_reducible refine (spec_l1Own.calls _ _ (rd_L2 x3_1 0) t203 _ ?side1 ?side2 A53.out).mono ?_); (case side1 => repeat (first | exact (by repeat (first | (with_reducible exact HR202_0.out) | (with_reducible refine ca_ ?_ _) | (with_reducible refine cn_ ?_ _) | (with_reducible refine cd_ ?_) | exact HR202_0.out)) | (with_reducible refine ca_ ?_ _) | (with_reducible refine cn_ ?_ _) | (with_reducible refine cd_ ?_))); (case side2 => exact HC202_0.out); rintro e w57 ⟨v204, rfl, ho0, hb⟩; refine ⟨_, rfl, ?_⟩; have n0_ := am_ (Kd.S_elder' (by (with_reducible repeat (first | apply sa_ | apply sn_ | apply sd_)); exact HO_3.out) (Kd.R_base ho0) hb); have n1_ := am_ (Kd.R_elder' (by (with_reducible repeat (first | apply ra_ | apply rn_ | apply rd_)); exact HO_6.out) (Kd.R_base ho0) hb); have n2_ := am_ (Kd.R_elder' (by (with_reducible repeat (first | apply ra_ | apply rn_ | apply rd_)); exact HL202_0.out) (Kd.R_base ho0) hb); have n3_ := am_ (Kd.R_lower (Kd.R_new' (Kd.R_new' ho0 (Kd.R_lt (by (with_reducible repeat (first | apply ra_ | apply rn_ | apply rd_)); exact HO_6.out))) (Kd.R_lt (by (with_reducible repeat (first | apply ra_ | apply rn_ | apply rd_)); exact HL202_0.out))) (keep_size (w := w) (g := g) (row := none) (by repeat (first | (with_reducible first | exact HK.out | apply KeepBut.set_ | apply keep_drewN | apply keep_drew | apply keep_alloc) | exact HK.out)))); have n4_ := am_ (IsS41.below (by repeat (first | (with_reducible first | exact HI0.out | apply IsS41.alloc | apply IsS41.drewN | apply IsS41.drew | apply IsS41.set_1 | apply IsS41.set_2) | exact HI0.out)) hb); have n5_ := am_ (Kd.C_below (by repeat (first | (with_reducible exact HR202_0.out) | (with_reducible refine ca_ ?_ _) | (with_reducible refine cn_ ?_ _) | (with_reducible refine cd_ ?_) | exact HR202_0.out)) hb); have n6_ := am_ (KeepBut.trans (by repeat (first | (with_reducible first | exact HK.out | apply KeepBut.set_ | apply keep_drewN | apply keep_drew | apply keep_alloc) | exact HK.out)) (KeepBut.of_below hb g none) (.inl rfl)); have n7_ := am_ (below_step (by repeat (first | (with_reducible first | exact HB.out | apply ba_ | apply pw_below_drewN | apply bd_ | refine bs_ ?_ (IsS41.ge HI0.out)) | exact HB.out)) hb); clear HO_3; clear HO_6; clear HL202_0; clear HI0; clear HR202_0; clear HK; clear HB; have HO_3 := n0_; have HO_6 := n1_; have HL202_0 := n2_; have HO205 := n3_; have HI0 := n4_; have HR202_0 := n5_; have HK := n6_; have HB := n7_; clear n0_ n1_ n2_ n3_ n4_ n5_ n6_ n7_; (try clear hb); (try clear hb2); (try clear hk); (try clear hi); (try clear ho0); obtain ⟨Ao58, co58, eo58⟩ := rs_ HO205.out; subst eo58) | ((with_reducible refine gc_ (f := 37) rfl ?_); refine goesL_ (some 69) rfl rfl Try.func37 (by kernel_rfl) rfl #[.slice Ao58 t203.length co58] rfl (by (try simp only [List.map_toArray, List.map_cons, List.map_nil]); first | done | rfl | (simp only [List.length_drop, List.length_take]; rfl)) ?_; (with_reducible refine (spec_l5Total.calls kj35 _ _ t203 t206 _ ?side1 ?side2 A54.out).mono ?_); (case side1 => repeat (first | exact (rr_ HO205.out).2.2 | (with_reducible refine ca_ ?_ _) | (with_reducible refine cn_ ?_ _) | (with_reducible refine cd_ ?_))); (case side2 => exact (rr_ HO205.out).2.1); rintro e w' ⟨rfl, ⟨nd, rfl⟩⟩; refine ⟨_, rfl, ?_⟩) | ((with_reducible refine gate_builtin (b := .append) (xs := #[.tmp 70, .tmp 72]) rfl ?_); at_builtin; refine Kd.S_append (Kd.slice 3 (Kd.int .i64)) w.heap.size rfl (.tmp 70) (.tmp 72) 24 25 (.slice none 0 0) 24 rfl Try.underlying24 info25 rfl (by decide) (by omega) (.slice (some ad202) x3_1.length co56) x3_1 t203 [.slice Ao58 t203.length co58] (fun k_ => some k_ ≠ (v184 : Value).ownBlock) (fun k_ => some k_ = (.slice Ao58 t203.length co58 : Value).ownBlock) rfl rfl ?aP (fun k_ hk_ => ((rm_ (ok' := fun k_ => ((fun k_ => some k_ ≠ (v184 : Value).ownBlock)) k_ ∧ some k_ ≠ (.slice (some ad202) x3_1.length co56 : Value).ownBlock) (Kd.R_apart' (HO205.out) (Kd.S_typed HO_3.out) (by decide)) (fun k_ hk => ⟨hk.1.1.2, hk.2⟩))).1 k_ hk_.symm) ?aF ?aO (Below.refl _ _) ?aS ?aL ?_; (case aP => exact Kd.M_row (rm_ (Kd.R_tight rfl (rm_ (ok' := fun k_ => ((fun k_ => some k_ ≠ (v184 : Value).ownBlock)) k_ ∧ some k_ ≠ (.slice (some ad202) x3_1.length co56 : Value).ownBlock) (Kd.R_apart' (HO205.out) (Kd.S_typed HO_3.out) (by decide)) (fun k_ hk => ⟨hk.1.1.2, hk.2⟩))) (fun _ h_ => h_))); (case aF => exact (fun k_ hk => Kd.fresh' (Kd.R_lt (by (with_reducible repeat (first | apply ra_ | apply rn_ | apply rd_)); exact HO_6.out)) k_ hk)); (case aO => exact (by (with_reducible repeat (first | apply sa_ | apply sn_ | apply sd_)); exact sm_ HO_3.out (fun k_ hk => ⟨hk.1, fun e_ => hk.2 e_⟩))); (case aS => exact (keep_size (w := w) (g := g) (row := none) (by repeat (first | (with_reducible first | exact HK.out | apply KeepBut.set_ | apply keep_drewN | apply keep_drew | apply keep_alloc) | exact HK.out)))); (case aL => have := LMc55.out; omega); intro v208 w59 ho hb hg hat; rw [← Ny207.out] at ho; have n0_ := am_ (Kd.R_over' (by (with_reducible repeat (first | apply ra_ | apply rn_ | apply rd_)); exact HO_6.out) (Kd.S_typed (by (with_reducible repeat (first | apply sa_ | apply sn_ | apply sd_)); exact HO_3.out)) (by decide) hg); have n1_ := am_ (IsS41.grown (by repeat (first | (with_reducible first | exact HI0.out | apply IsS41.alloc | apply IsS41.drewN | apply IsS41.drew | apply IsS41.set_1 | apply IsS41.set_2) | exact HI0.out)) hg (IsS41.own_neS HI0.out HO_3.out (by decide))); have n2_ := am_ (Kd.R_after (ok := (fun k_ => some k_ ≠ (v184 : Value).ownBlock ∧ some k_ ≠ (.slice Ao58 t203.length co58 : Value).ownBlock)) (by (with_reducible repeat (first | apply ra_ | apply rn_ | apply rd_)); exact rm_ HL202_0.out (fun _ hk => ⟨⟨hk.1.1, hk.2⟩, hk.1.2⟩)) hg hat); have n3_ := am_ (below_weaken (by repeat (first | (with_reducible first | exact HB.out | apply ba_ | apply pw_below_drewN | apply bd_ | refine bs_ ?_ (IsS41.ge HI0.out)) | exact HB.out)) HL.out hb); have n4_ := am_ (KeepBut.trans (by repeat (first | (with_reducible first | exact HK.out | apply KeepBut.set_ | apply keep_drewN | apply keep_drew | apply keep_alloc) | exact HK.out)) (KeepBut.of_grown hg g) (Kd.S_base2 HO_3.out)); have n5_ := am_ (ho); clear HO_6; clear HI0; clear HL202_0; clear HB; clear HK; clear HO_3; clear HO205; have HO_6 := n0_; have HI0 := n1_; have HL202_0 := n2_; have HB := n3_; have HK := n4_; have HO209 := n5_; clear n0_ n1_ n2_ n3_ n4_ n5_; clear ho hb hg hat))
             go_roundg kj35
             case measure => have := HK1.out; have := HJ10.out; have := HJ26.out; have := HJ35.out; omega
             case rel => exact ⟨(y207), (t206), (wrap64 (x5_1 - 1)), (x1001_35), (x1002_35), (by first | rfl | (simp; done) | (simp [*]; done)), (by first | rfl | (simp; done) | (simp [*]; done)), H', ⟨by have := HK1.out; have := HJ10.out; have := HJ26.out; have := HJ35.out; omega⟩, ⟨by (with_reducible repeat (first | apply sa_ | apply sn_ | apply sd_)); exact sm_ HO209.out (fun _ hk => trivial)⟩, ⟨by repeat (first | (with_reducible first | exact HI0.out | apply IsS41.alloc | apply IsS41.drewN | apply IsS41.drew | apply IsS41.set_1 | apply IsS41.set_2) | exact HI0.out)⟩, ⟨by repeat (first | (with_reducible first | exact HK.out | apply KeepBut.set_ | apply keep_drewN | apply keep_drew | apply keep_alloc) | exact HK.out)⟩, ⟨by repeat (first | (with_reducible first | exact HB.out | apply ba_ | apply pw_below_drewN | apply bd_ | refine bs_ ?_ (IsS41.ge HI0.out)) | exact HB.out)⟩⟩
            ·
             rw [if_neg c55] at H
             exact absurd H (by simp)
           ·
            rw [if_neg c52] at H
            exact absurd H (by simp)
          ·
           replace c51 := Bool.eq_false_iff.mpr c51
           subst c51
           have H1 : ((spec_l5Total.f kj35 x6_26).bind fun t210 => (if x3_1.length < 5864062014805 then (spec_l1Cur_goods.l0 kj35 (x3_1 ++ [x6_26]) t210 (wrap64 (x5_1 - 1)) s0_0 x1001_35 x1002_35) else (none))) = some (r1, r2, r3) := by rw [if_neg (show ¬ (false = true) by decide)] at H; exact H
           clear H
           have H := H1
           clear H1
           replace H := Option.bind_eq_some_iff.mp H
           obtain ⟨t210, A600, H⟩ := H
           replace H : (if x3_1.length < 5864062014805 then (spec_l1Cur_goods.l0 kj35 (x3_1 ++ [x6_26]) t210 (wrap64 (x5_1 - 1)) s0_0 x1001_35 x1002_35) else (none)) = some (r1, r2, r3) := H
           have A60 := am_ A600
           clear A600
           by_cases c61 : x3_1.length < 5864062014805
           ·
            rw [if_pos c61] at H
            have LMc61 := am_ c61
            clear c61
            obtain ⟨y211, hy211⟩ : ∃ y_ : List (List Int), y_ = (x3_1 ++ [x6_26]) := ⟨_, rfl⟩
            replace H : (spec_l1Cur_goods.l0 kj35 y211 t210 (wrap64 (x5_1 - 1)) s0_0 x1001_35 x1002_35) = some (r1, r2, r3) := by first | (rw [hy211]; with_reducible exact H) | (have H2_ := (Option.bind_some _ _).symm.trans H; rw [hy211]; with_reducible exact H2_) | (have H2_ := (Option.bind_some _ _).symm.trans H; with_reducible exact H2_) | with_reducible exact H | (rw [hy211]; exact H) | exact H
            have Ny211 := am_ hy211
            clear hy211
            have H' := am_ H
            clear H
            obtain ⟨Ao62, co62, eo62⟩ := rs_ HO_6.out
            subst eo62
            go_wp2_with (first | ((with_reducible refine gc_ (f := 37) rfl ?_); refine goesL_ (some 69) rfl rfl Try.func37 (by kernel_rfl) rfl #[.slice Ao62 x6_26.length co62] rfl (by (try simp only [List.map_toArray, List.map_cons, List.map_nil]); first | done | rfl | (simp only [List.length_drop, List.length_take]; rfl)) ?_; (with_reducible refine (spec_l5Total.calls kj35 _ _ x6_26 t210 _ ?side1 ?side2 A60.out).mono ?_); (case side1 => repeat (first | exact (rr_ HO_6.out).2.2 | (with_reducible refine ca_ ?_ _) | (with_reducible refine cn_ ?_ _) | (with_reducible refine cd_ ?_))); (case side2 => exact (rr_ HO_6.out).2.1); rintro e w' ⟨rfl, ⟨nd, rfl⟩⟩; refine ⟨_, rfl, ?_⟩) | ((with_reducible refine gate_builtin (b := .append) (xs := #[.tmp 70, .tmp 72]) rfl ?_); at_builtin; refine Kd.S_append (Kd.slice 3 (Kd.int .i64)) w.heap.size rfl (.tmp 70) (.tmp 72) 24 25 (.slice none 0 0) 24 rfl Try.underlying24 info25 rfl (by decide) (by omega) u3 x3_1 x6_26 [.slice Ao62 x6_26.length co62] (fun _ => True) (fun k_ => some k_ = (.slice Ao62 x6_26.length co62 : Value).ownBlock) rfl rfl ?aP (fun k_ hk_ => ((rm_ (ok' := fun k_ => ((fun _ => True)) k_ ∧ some k_ ≠ (u3 : Value).ownBlock) (Kd.R_apart' (HO_6.out) (Kd.S_typed HO_3.out) (by decide)) (fun k_ hk => ⟨trivial, hk.2⟩))).1 k_ hk_.symm) ?aF ?aO (Below.refl _ _) ?aS ?aL ?_; (case aP => exact Kd.M_row (rm_ (Kd.R_tight rfl (rm_ (ok' := fun k_ => ((fun _ => True)) k_ ∧ some k_ ≠ (u3 : Value).ownBlock) (Kd.R_apart' (HO_6.out) (Kd.S_typed HO_3.out) (by decide)) (fun k_ hk => ⟨trivial, hk.2⟩))) (fun _ h_ => h_))); (case aF => exact (fun _ _ => trivial)); (case aO => exact (by (with_reducible repeat (first | apply sa_ | apply sn_ | apply sd_)); exact sm_ HO_3.out (fun k_ hk => ⟨trivial, fun e_ => hk e_⟩))); (case aS => exact (keep_size (w := w) (g := g) (row := none) (by repeat (first | (with_reducible first | exact HK.out | apply KeepBut.set_ | apply keep_drewN | apply keep_drew | apply keep_alloc) | exact HK.out)))); (case aL => have := LMc61.out; omega); intro v212 w63 ho hb hg hat; rw [← Ny211.out] at ho; have n0_ := am_ (IsS41.grown (by repeat (first | (with_reducible first | exact HI0.out | apply IsS41.alloc | apply IsS41.drewN | apply IsS41.drew | apply IsS41.set_1 | apply IsS41.set_2) | exact HI0.out)) hg (IsS41.own_neS HI0.out HO_3.out (by decide))); have n1_ := am_ (below_weaken (by repeat (first | (with_reducible first | exact HB.out | apply ba_ | apply pw_below_drewN | apply bd_ | refine bs_ ?_ (IsS41.ge HI0.out)) | exact HB.out)) HL.out hb); have n2_ := am_ (KeepBut.trans (by repeat (first | (with_reducible first | exact HK.out | apply KeepBut.set_ | apply keep_drewN | apply keep_drew | apply keep_alloc) | exact HK.out)) (KeepBut.of_grown hg g) (Kd.S_base2 HO_3.out)); have n3_ := am_ (ho); clear HI0; clear HB; clear HK; clear HO_3; clear HO_6; have HI0 := n0_; have HB := n1_; have HK := n2_; have HO213 := n3_; clear n0_ n1_ n2_ n3_; clear ho hb hg hat))
            go_roundg kj35
            case measure => have := HK1.out; have := HJ10.out; have := HJ26.out; have := HJ35.out; omega
            case rel => exact ⟨(y211), (t210), (wrap64 (x5_1 - 1)), (x1001_35), (x1002_35), (by first | rfl | (simp; done) | (simp [*]; done)), (by first | rfl | (simp; done) | (simp [*]; done)), H', ⟨by have := HK1.out; have := HJ10.out; have := HJ26.out; have := HJ35.out; omega⟩, ⟨by (with_reducible repeat (first | apply sa_ | apply sn_ | apply sd_)); exact HO213.out⟩, ⟨by repeat (first | (with_reducible first | exact HI0.out | apply IsS41.alloc | apply IsS41.drewN | apply IsS41.drew | apply IsS41.set_1 | apply IsS41.set_2) | exact HI0.out)⟩, ⟨by repeat (first | (with_reducible first | exact HK.out | apply KeepBut.set_ | apply keep_drewN | apply keep_drew | apply keep_alloc) | exact HK.out)⟩, ⟨by repeat (first | (with_reducible first | exact HB.out | apply ba_ | apply pw_below_drewN | apply bd_ | refine bs_ ?_ (IsS41.ge HI0.out)) | exact HB.out)⟩⟩
           ·
            rw [if_neg c61] at H
            exact absurd H (by simp)
   ·
    rw [if_neg c9] at H
    have c9b0 : decide (0 < x5_1) = false := decide_eq_false c9
    clear c9
    replace H := Option.bind_eq_some_iff.mp H
    obtain ⟨⟨t177, t178, t179⟩, A640, H⟩ := H
    replace H : (if t177 = true then (some ((([] : List (List Int))), t178, t179)) else (some (x3_1, t178, t179))) = some (r1, r2, r3) := H
    have A64 := am_ A640
    clear A640
    by_cases c65 : t177 = true
    ·
     subst c65
     have H1 : (some ((([] : List (List Int))), t178, t179)) = some (r1, r2, r3) := by rw [if_pos rfl] at H; exact H
     clear H
     have H := H1
     clear H1
     obtain ⟨y180, hy180⟩ : ∃ y_ : List (List Int), y_ = (([] : List (List Int))) := ⟨_, rfl⟩
     replace H : (some (y180, t178, t179)) = some (r1, r2, r3) := by first | (rw [hy180]; with_reducible exact H) | (have H2_ := (Option.bind_some _ _).symm.trans H; rw [hy180]; with_reducible exact H2_) | (have H2_ := (Option.bind_some _ _).symm.trans H; with_reducible exact H2_) | with_reducible exact H | (rw [hy180]; exact H) | exact H
     have Ny180 := am_ hy180
     clear hy180
     simp only [Option.some.injEq, Prod.mk.injEq] at H
     obtain ⟨rfl, rfl, rfl⟩ := H
     go_wp2_with (first | ((with_reducible refine gc_ (f := 17) rfl ?_); refine goesL_ (some 75) rfl rfl Try.func17 (by kernel_rfl) rfl #[.pointer (some ⟨g, 0, none⟩), .int .i64 24] rfl (by (try simp only [List.map_toArray, List.map_cons, List.map_nil]); first | done | rfl | (simp only [List.length_drop, List.length_take]; rfl)) ?_; (with_reducible refine (spec_l1Cur_one.calls g s0_0 x1001_1 x1002_1 24 true t178 t179 w0 _ ?side1 ?side2 A64.out).mono ?_); (case side1 => repeat (first | (with_reducible first | exact HI0.out | apply IsS41.alloc | apply IsS41.drewN | apply IsS41.drew | apply IsS41.set_1 | apply IsS41.set_2) | exact HI0.out)); (case side2 => repeat (first | (with_reducible first | exact HB.out | apply ba_ | apply pw_below_drewN | apply bd_ | refine bs_ ?_ (IsS41.ge HI0.out)) | exact HB.out)); rintro e w66 ⟨rfl, hi, hb, hk⟩; refine ⟨_, rfl, ?_⟩; have n0_ := am_ (sm_ (Kd.S_keep (IsS41.apartS (show IsS41 w0 _ g s0_0 x1001_1 x1002_1 from by repeat (first | (with_reducible first | exact HI0.out | apply IsS41.alloc | apply IsS41.drewN | apply IsS41.drew | apply IsS41.set_1 | apply IsS41.set_2) | exact HI0.out)) (by (with_reducible repeat (first | apply sa_ | apply sn_ | apply sd_)); exact HO_3.out) (by decide)) hk (fun _ h => h.2)) (fun _ h => h.1)); have n1_ := am_ (KeepBut.trans (by repeat (first | (with_reducible first | exact HK.out | apply KeepBut.set_ | apply keep_drewN | apply keep_drew | apply keep_alloc) | exact HK.out)) hk (.inl rfl)); have n2_ := am_ (hb); have n3_ := am_ (hi); clear HO_3; clear HK; clear HB; clear HI0; have HO_3 := n0_; have HK := n1_; have HB := n2_; have HI0 := n3_; clear n0_ n1_ n2_ n3_; (try clear hb); (try clear hb2); (try clear hk); (try clear hi)) | ((with_reducible refine gate_dst (N := 76) rfl ?_); refine Kd.S_lit (Kd.slice 3 (Kd.int .i64)) _ 25 ?hg (N := 76) ?hd (xs := ([] : List (List Int))) (inner := []) (ok := fun _ => True) (okp := fun _ => True) ?hr ?hp (fun _ hk => hk) trivial (Below.refl _ _) (Nat.le_refl _) (by simp) ?_; (case hd => rfl); (case hg => rfl); (case hr => first | (go_simp; done) | (go_simp; rfl)); (case hp => exact (Reps.none _ _)); intro v181 w67 ho68 hb hg_ hnew_; clear hg_ hnew_; (first | rw [← Ny180.out] at ho68 | (simp only [Int.reduceToNat] at ho68; rw [← Ny180.out] at ho68)); have n0_ := am_ (Kd.S_elder' (by (with_reducible repeat (first | apply sa_ | apply sn_ | apply sd_)); exact HO_3.out) (Kd.S_base ho68) hb); have n1_ := am_ (Kd.S_lower (Kd.S_new' ho68 (Kd.S_lt (by (with_reducible repeat (first | apply sa_ | apply sn_ | apply sd_)); exact HO_3.out))) (keep_size (w := w) (g := g) (row := none) (by repeat (first | (with_reducible first | exact HK.out | apply KeepBut.set_ | apply keep_drewN | apply keep_drew | apply keep_alloc) | exact HK.out)))); have n2_ := am_ (IsS41.below (by repeat (first | (with_reducible first | exact HI0.out | apply IsS41.alloc | apply IsS41.drewN | apply IsS41.drew | apply IsS41.set_1 | apply IsS41.set_2) | exact HI0.out)) hb); have n3_ := am_ (KeepBut.trans (by repeat (first | (with_reducible first | exact HK.out | apply KeepBut.set_ | apply keep_drewN | apply keep_drew | apply keep_alloc) | exact HK.out)) (KeepBut.of_below hb g none) (.inl rfl)); have n4_ := am_ (below_step (by repeat (first | (with_reducible first | exact HB.out | apply ba_ | apply pw_below_drewN | apply bd_ | refine bs_ ?_ (IsS41.ge HI0.out)) | exact HB.out)) hb); clear HO_3; clear HI0; clear HK; clear HB; have HO_3 := n0_; have HO182 := n1_; have HI0 := n2_; have HK := n3_; have HB := n4_; clear n0_ n1_ n2_ n3_ n4_; clear hb ho68))
     go_ret
     exact ⟨_, by first | rfl | (simp [errW_none, errW_some] <;> rfl) | (simp [*, errW_none, errW_some] <;> rfl), by (with_reducible repeat (first | apply sa_ | apply sn_ | apply sd_)); exact sm_ HO182.out (fun _ hk => trivial), by repeat (first | (with_reducible first | exact HI0.out | apply IsS41.alloc | apply IsS41.drewN | apply IsS41.drew | apply IsS41.set_1 | apply IsS41.set_2) | exact HI0.out), by repeat (first | (with_reducible first | exact HB.out | apply ba_ | apply pw_below_drewN | apply bd_ | refine bs_ ?_ (IsS41.ge HI0.out)) | exact HB.out), by repeat (first | (with_reducible first | exact HK.out | apply KeepBut.set_ | apply keep_drewN | apply keep_drew | apply keep_alloc) | exact HK.out)⟩
    ·
     replace c65 := Bool.eq_false_iff.mpr c65
     subst c65
     have H1 : (some (x3_1, t178, t179)) = some (r1, r2, r3) := by rw [if_neg (show ¬ (false = true) by decide)] at H; exact H
     clear H
     have H := H1
     clear H1
     simp only [Option.some.injEq, Prod.mk.injEq] at H
     obtain ⟨rfl, rfl, rfl⟩ := H
     go_wp2_with (first | ((with_reducible refine gc_ (f := 17) rfl ?_); refine goesL_ (some 75) rfl rfl Try.func17 (by kernel_rfl) rfl #[.pointer (some ⟨g, 0, none⟩), .int .i64 24] rfl (by (try simp only [List.map_toArray, List.map_cons, List.map_nil]); first | done | rfl | (simp only [List.length_drop, List.length_take]; rfl)) ?_; (with_reducible refine (spec_l1Cur_one.calls g s0_0 x1001_1 x1002_1 24 false t178 t179 w0 _ ?side1 ?side2 A64.out).mono ?_); (case side1 => repeat (first | (with_reducible first | exact HI0.out | apply IsS41.alloc | apply IsS41.drewN | apply IsS41.drew | apply IsS41.set_1 | apply IsS41.set_2) | exact HI0.out)); (case side2 => repeat (first | (with_reducible first | exact HB.out | apply ba_ | apply pw_below_drewN | apply bd_ | refine bs_ ?_ (IsS41.ge HI0.out)) | exact HB.out)); rintro e w69 ⟨rfl, hi, hb, hk⟩; refine ⟨_, rfl, ?_⟩; have n0_ := am_ (sm_ (Kd.S_keep (IsS41.apartS (show IsS41 w0 _ g s0_0 x1001_1 x1002_1 from by repeat (first | (with_reducible first | exact HI0.out | apply IsS41.alloc | apply IsS41.drewN | apply IsS41.drew | apply IsS41.set_1 | apply IsS41.set_2) | exact HI0.out)) (by (with_reducible repeat (first | apply sa_ | apply sn_ | apply sd_)); exact HO_3.out) (by decide)) hk (fun _ h => h.2)) (fun _ h => h.1)); have n1_ := am_ (KeepBut.trans (by repeat (first | (with_reducible first | exact HK.out | apply KeepBut.set_ | apply keep_drewN | apply keep_drew | apply keep_alloc) | exact HK.out)) hk (.inl rfl)); have n2_ := am_ (hb); have n3_ := am_ (hi); clear HO_3; clear HK; clear HB; clear HI0; have HO_3 := n0_; have HK := n1_; have HB := n2_; have HI0 := n3_; clear n0_ n1_ n2_ n3_; (try clear hb); (try clear hb2); (try clear hk); (try clear hi)))
     go_ret
     exact ⟨_, by first | rfl | (simp [errW_none, errW_some] <;> rfl) | (simp [*, errW_none, errW_some] <;> rfl), by (with_reducible repeat (first | apply sa_ | apply sn_ | apply sd_)); exact HO_3.out, by repeat (first | (with_reducible first | exact HI0.out | apply IsS41.alloc | apply IsS41.drewN | apply IsS41.drew | apply IsS41.set_1 | apply IsS41.set_2) | exact HI0.out), by repeat (first | (with_reducible first | exact HB.out | apply ba_ | apply pw_below_drewN | apply bd_ | refine bs_ ?_ (IsS41.ge HI0.out)) | exact HB.out), by repeat (first | (with_reducible first | exact HK.out | apply KeepBut.set_ | apply keep_drewN | apply keep_drew | apply keep_alloc) | exact HK.out)⟩

end Go.Proofs.Ytknnnkkchfcjkaa.PFnBudgets
