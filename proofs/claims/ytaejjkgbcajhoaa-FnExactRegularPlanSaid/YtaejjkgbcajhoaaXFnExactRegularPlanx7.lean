-- Made by wip/xprint.py: the print of the kit, called over a changed copy of what it reads.
-- PRINTED by print.py (a twelfth state) out of the translation. Not trusted: Lean checks it.
import Derived.WideKeyArr2
import Derived.Test.YtaejjkgbcajhoaaMemo
import Derived.Test.YtaejjkgbcajhoaaDyn
import Derived.Test.YtaejjkgbcajhoaaXFnExactRegularPlanx0
import Derived.Test.YtaejjkgbcajhoaaXFnExactRegularPlanx5
import Derived.Test.YtaejjkgbcajhoaaXFnExactRegularPlanx6
namespace Go.Proofs.Ytaejjkgbcajhoaa.PFnExactRegularPlan
open Go.Proofs.Ytaejjkgbcajhoaa.Memo
open Go.Proofs.YtaejjkgbcajhoaaW.PrintWords.Aside0 renaming mk → am_
open Go.Proofs.YtaejjkgbcajhoaaW.PrintWords renaming below_drew1 → bd_, below_alloc → ba_, below_set → bs_, below_size → bz_, below_step → bp_, blk_frozen → kf_, blk_alloc → ka_, blk_drewN → kn_, blk_drew → kd_, blk_cell → kc_, blk_below → kb_, gate_callee → gc_
open Go.Proofs.YtaejjkgbcajhoaaW.PrintWords.Kd renaming C_alloc → ca_, C_drewN → cn_, C_drew → cd_, C_below → cb_
open Go.Proofs.Ytaejjkgbcajhoaa.Dyn
attribute [local go_sem] run_mf events_mf
open Go.RowKit Go.Proofs.YtaejjkgbcajhoaaW.PrintWords Go.Proofs.YtaejjkgbcajhoaaW.PrintLast Go.Proofs.YtaejjkgbcajhoaaW.PrintMore
attribute [local go_sem] max2_int min2_int max_two min_two max_three min_three max_four min_four   -- for this text's walks alone
set_option linter.unusedVariables false
set_option linter.unusedSimpArgs false

/-! ### impl_limitedLeast: function 33 -/
/- (ours: least and with call one another; the memory of answers is a map) -/
mutual
def impl_limitedLeast.l0 : Nat → Int → Int → Int → List Int → Bool → Int → Int → Int → List Int → List Int → List Int → List Int → Option (Int)
 | 0, _, _, _, _, _, _, _, _, _, _, _, _ => none
 | k + 1, x1, x2, x3, x4, x5, x12, x56, x57, y0, y1, y2, y3 => if x57 < x56 then ((impl_limitedWith.f k y0 y1 y2 y3 x1 x2 x3 x57 x4 x5).bind fun t220 => (impl_limitedLeast.l0 k x1 x2 x3 x4 x5 (mn x12 t220) x56 (wrap64 (x57 + 1)) y0 y1 y2 y3)) else (some x12)
def impl_limitedLeast.f : Nat → List Int → List Int → List Int → List Int → Int → Int → Int → List Int → Bool → Option (Int)
 | 0, _, _, _, _, _, _, _, _, _ => none
 | k + 1, l0_0, l0_1, l0_2, l0_3, a1, a2, a3, l4, a5 => if (0 ≤ a1 ∧ a1 ≤ 8 ∧ 0 ≤ a2 ∧ a2 ≤ 1000 ∧ 0 ≤ a3 ∧ a3 ≤ 1) then (if a1 ≤ (l0_0.length : Int) then ((impl_total.f k (l0_0.drop (a1 : Int).toNat)).bind fun t218 => (if a2 > t218 then (some 1099511627776) else (if a1 = (l0_0.length : Int) then (some 0) else (if a1 < (l4.length : Int) then (impl_limitedLeast.l0 k a1 a2 a3 l4 a5 1099511627776 (wrap64 ((rd l4 a1) + 1)) 0 l0_0 l0_1 l0_2 l0_3) else (none))))) else (none)) else (none)
def impl_limitedWith.f : Nat → List Int → List Int → List Int → List Int → Int → Int → Int → Int → List Int → Bool → Option (Int)
 | 0, _, _, _, _, _, _, _, _, _, _ => none
 | k + 1, l0_0, l0_1, l0_2, l0_3, a1, a2, a3, a4, l5, a6 => (impl_limitedAfter.f k l0_0 l0_1 l0_2 l0_3 a1 a2 a3 a4 l5 a6).bind fun bt => (if bt.2.2 = 1099511627776 then (some 1099511627776) else ((impl_limitedLeast.f k l0_0 l0_1 l0_2 l0_3 (wrap64 (a1 + 1)) bt.1 bt.2.1 l5 a6).bind fun t => (some (mn 1099511627776 (wrap64 (bt.2.2 + t))))))
end
theorem impl_limitedLeast.mono_l : ∀ k, (∀ y0 y1 y2 y3 y4 y5 y6 y7 y8, LeO (impl_limitedLeast.f k y0 y1 y2 y3 y4 y5 y6 y7 y8) (impl_limitedLeast.f (k + 1) y0 y1 y2 y3 y4 y5 y6 y7 y8)) ∧ (∀ y0 y1 y2 y3 y4 y5 y6 y7 y8 y9 y10 y11, LeO (impl_limitedLeast.l0 k y0 y1 y2 y3 y4 y5 y6 y7 y8 y9 y10 y11) (impl_limitedLeast.l0 (k + 1) y0 y1 y2 y3 y4 y5 y6 y7 y8 y9 y10 y11)) ∧ (∀ y0 y1 y2 y3 y4 y5 y6 y7 y8 y9, LeO (impl_limitedWith.f k y0 y1 y2 y3 y4 y5 y6 y7 y8 y9) (impl_limitedWith.f (k + 1) y0 y1 y2 y3 y4 y5 y6 y7 y8 y9))
 | 0 => ⟨fun _ _ _ _ _ _ _ _ _ r h => by simp [impl_limitedLeast.f] at h, fun _ _ _ _ _ _ _ _ _ _ _ _ r h => by simp [impl_limitedLeast.l0] at h, fun _ _ _ _ _ _ _ _ _ _ r h => by simp [impl_limitedWith.f] at h⟩
 | k + 1 => by
  obtain ⟨ih0, ih1, ih2⟩ := impl_limitedLeast.mono_l k
  refine ⟨?_, ?_, ?_⟩
  ·
   intro y0 y1 y2 y3 y4 y5 y6 y7 y8
   unfold impl_limitedLeast.f
   repeat' first
   | (with_reducible exact ih0 _ _ _ _ _ _ _ _ _)
   | (with_reducible exact ih1 _ _ _ _ _ _ _ _ _ _ _ _)
   | (with_reducible exact ih2 _ _ _ _ _ _ _ _ _ _)
   | (with_reducible exact impl_limitedAfter.mono _ _ _ _ _ _ _ _ _ _ _)
   | (with_reducible exact impl_total.mono _ _)
   | (with_reducible exact LeO.refl _)
   | (with_reducible exact LeO.none _)
   | (with_reducible refine LeO.ite ?_ ?_)
   | (with_reducible refine LeO.bind ?_ (fun _ => ?_))
   | exact ih0 _ _ _ _ _ _ _ _ _
   | exact ih1 _ _ _ _ _ _ _ _ _ _ _ _
   | exact ih2 _ _ _ _ _ _ _ _ _ _
   | exact LeO.none _
   | refine LeO.ite ?_ ?_
   | refine LeO.bind ?_ (fun _ => ?_)
  ·
   intro y0 y1 y2 y3 y4 y5 y6 y7 y8 y9 y10 y11
   unfold impl_limitedLeast.l0
   repeat' first
   | (with_reducible exact ih0 _ _ _ _ _ _ _ _ _)
   | (with_reducible exact ih1 _ _ _ _ _ _ _ _ _ _ _ _)
   | (with_reducible exact ih2 _ _ _ _ _ _ _ _ _ _)
   | (with_reducible exact impl_limitedAfter.mono _ _ _ _ _ _ _ _ _ _ _)
   | (with_reducible exact impl_total.mono _ _)
   | (with_reducible exact LeO.refl _)
   | (with_reducible exact LeO.none _)
   | (with_reducible refine LeO.ite ?_ ?_)
   | (with_reducible refine LeO.bind ?_ (fun _ => ?_))
   | exact ih0 _ _ _ _ _ _ _ _ _
   | exact ih1 _ _ _ _ _ _ _ _ _ _ _ _
   | exact ih2 _ _ _ _ _ _ _ _ _ _
   | exact LeO.none _
   | refine LeO.ite ?_ ?_
   | refine LeO.bind ?_ (fun _ => ?_)
  ·
   intro y0 y1 y2 y3 y4 y5 y6 y7 y8 y9
   unfold impl_limitedWith.f
   repeat' first
   | (with_reducible exact ih0 _ _ _ _ _ _ _ _ _)
   | (with_reducible exact ih1 _ _ _ _ _ _ _ _ _ _ _ _)
   | (with_reducible exact ih2 _ _ _ _ _ _ _ _ _ _)
   | (with_reducible exact impl_limitedAfter.mono _ _ _ _ _ _ _ _ _ _ _)
   | (with_reducible exact impl_total.mono _ _)
   | (with_reducible exact LeO.refl _)
   | (with_reducible exact LeO.none _)
   | (with_reducible refine LeO.ite ?_ ?_)
   | (with_reducible refine LeO.bind ?_ (fun _ => ?_))
   | exact ih0 _ _ _ _ _ _ _ _ _
   | exact ih1 _ _ _ _ _ _ _ _ _ _ _ _
   | exact ih2 _ _ _ _ _ _ _ _ _ _
   | exact LeO.none _
   | refine LeO.ite ?_ ?_
   | refine LeO.bind ?_ (fun _ => ?_)
theorem impl_limitedLeast.mono : ∀ a0 a1 a2 a3 a4 a5 a6 a7 a8 k, LeO (impl_limitedLeast.f k a0 a1 a2 a3 a4 a5 a6 a7 a8) (impl_limitedLeast.f (k + 1) a0 a1 a2 a3 a4 a5 a6 a7 a8) := fun a0 a1 a2 a3 a4 a5 a6 a7 a8 k => (impl_limitedLeast.mono_l k).1 a0 a1 a2 a3 a4 a5 a6 a7 a8
theorem impl_limitedWith.mono : ∀ a0 a1 a2 a3 a4 a5 a6 a7 a8 a9 k, LeO (impl_limitedWith.f k a0 a1 a2 a3 a4 a5 a6 a7 a8 a9) (impl_limitedWith.f (k + 1) a0 a1 a2 a3 a4 a5 a6 a7 a8 a9) := fun a0 a1 a2 a3 a4 a5 a6 a7 a8 a9 k => (impl_limitedLeast.mono_l k).2.2 a0 a1 a2 a3 a4 a5 a6 a7 a8 a9
theorem impl_limitedLeast.up {a0 a1 a2 a3 : List Int} {a4 a5 a6 : Int} {a7 : List Int} {a8 : Bool} {k k' : Nat} (h : k ≤ k') {r : Int} (e : impl_limitedLeast.f k a0 a1 a2 a3 a4 a5 a6 a7 a8 = some r) : impl_limitedLeast.f k' a0 a1 a2 a3 a4 a5 a6 a7 a8 = some r := by
 induction h with
 | refl => exact e
 | step _ ih => exact impl_limitedLeast.mono _ _ _ _ _ _ _ _ _ _ _ ih
theorem impl_limitedLeast.one {a0 a1 a2 a3 : List Int} {a4 a5 a6 : Int} {a7 : List Int} {a8 : Bool} {k k' : Nat} {r r' : Int} (e : impl_limitedLeast.f k a0 a1 a2 a3 a4 a5 a6 a7 a8 = some r) (e' : impl_limitedLeast.f k' a0 a1 a2 a3 a4 a5 a6 a7 a8 = some r') : r = r' :=
 Option.some.inj ((impl_limitedLeast.up (Nat.le_max_left k k') e).symm.trans (impl_limitedLeast.up (Nat.le_max_right k k') e'))
/-- What the memory of answers holds. -/
def LimG (l0_0 l0_1 l0_2 l0_3 l5 : List Int) (a6 : Bool) (i s p v : Int) : Prop := ∃ k, impl_limitedLeast.f k l0_0 l0_1 l0_2 l0_3 i s p l5 a6 = some v
theorem lim_arr : Go.WideMaps.ArrKey Try.prog 68 3 3 := ⟨Try.underlying68, by kernel_rfl, by kernel_rfl, by kernel_rfl⟩
theorem lim_keyed : Maps.Keyed Try.prog 68 := Maps.Keyed.of_law lim_arr.law
theorem lim_key {i s p : Int} (h : InR i s p) : ∃ kl, keyOf Try.prog 68 (key3 i s p) = some kl := by
 obtain ⟨a0, a1, b0, b1, c0, c1⟩ := h
 have w0 : (Lit.int .i64 i).wf = true := by simp only [Lit.wf, Bool.and_eq_true, decide_eq_true_eq]; exact (show -9223372036854775808 ≤ i ∧ i ≤ 9223372036854775807 by omega)
 have w1 : (Lit.int .i64 s).wf = true := by simp only [Lit.wf, Bool.and_eq_true, decide_eq_true_eq]; exact (show -9223372036854775808 ≤ s ∧ s ≤ 9223372036854775807 by omega)
 have w2 : (Lit.int .i64 p).wf = true := by simp only [Lit.wf, Bool.and_eq_true, decide_eq_true_eq]; exact (show -9223372036854775808 ≤ p ∧ p ≤ 9223372036854775807 by omega)
 obtain ⟨m, hm⟩ : ∃ m, Try.prog.types.size = m + 1 := ⟨Try.prog.types.size - 1, by have : 0 < Try.prog.types.size := of_decide_eq_true (by kernel_rfl); omega⟩
 have hk := lim_arr.keyType ⟨m, hm⟩
 have hu3 : Try.prog.underlying 3 = some (.int .i64) := Try.underlying3
 unfold keyOf key3
 simp [lim_arr.hu, hk, Value.formed, lim_arr.size, Value.cells, hm, Program.keyLits, lim_arr.one, hu3, w0, w1, w2, List.range_succ]
theorem lim_zero (w : World) : (zeroValue 3).run Try.prog w = .ok (.int .i64 0) w := by
 obtain ⟨i_, hi_, z_, _, _⟩ := info_parts info3
 simp [zeroValue, typeInfo, hi_, z_]
theorem limited_wf {k : Nat} {l0_0 l0_1 l0_2 l0_3 : List Int} {a1 a2 a3 a4 : Int} {l5 : List Int} {a6 : Bool} {r : Int} (h : impl_limitedWith.f k l0_0 l0_1 l0_2 l0_3 a1 a2 a3 a4 l5 a6 = some r) : -9223372036854775808 ≤ r ∧ r ≤ 9223372036854775807 := by
 cases k with
 | zero => exact absurd h (by simp [impl_limitedWith.f])
 | succ k =>
 simp only [impl_limitedWith.f] at h
 obtain ⟨⟨t1, t2, t3⟩, _, H⟩ := Option.bind_eq_some_iff.mp h
 by_cases c3 : t3 = 1099511627776
 ·
  rw [if_pos c3] at H
  obtain rfl := Option.some.inj H
  omega
 ·
  rw [if_neg c3] at H
  obtain ⟨t5, _, H⟩ := Option.bind_eq_some_iff.mp H
  obtain rfl := Option.some.inj H
  unfold mn wrap64
  split <;> omega
def impl_limitedLeast.T15 : Bool × List (List Nat × List Nat) := (true, [([], []), ([0], [0]), ([1], [1]), ([2], [2]), ([], []), ([], []), ([3, 4, 5, 0, 1, 2, 3, 4, 5], [3, 4, 5])])
def impl_limitedLeast.B15 : List Nat := [0, 1, 3, 7, 0, 0, 63]
theorem impl_limitedLeast.tab15 : rtab .any (opsOf Try.f33 15) = impl_limitedLeast.T15 := by kernel_rfl
theorem impl_limitedLeast.bits15 : waitsOk impl_limitedLeast.T15.2 impl_limitedLeast.B15 = true := by kernel_rfl
set_option maxHeartbeats 8000000 in
set_option maxRecDepth 100000 in
theorem limited_calls (gl gm : Nat) (A0_0 : Option Addr) (c0_0 : Nat) (l0_0 : List Int) (A0_1 : Option Addr) (c0_1 : Nat) (l0_1 : List Int) (A0_2 : Option Addr) (c0_2 : Nat) (l0_2 : List Int) (A0_3 : Option Addr) (c0_3 : Nat) (l0_3 : List Int) (A5 : Option Addr) (c5 : Nat) (l5 : List Int) (a6 : Bool) (w0 : World) (hgm : w0.heap.size ≤ gm) (hr0_0 : Kd.C (Kd.int .i64) w0 A0_0 l0_0.length l0_0) (hc0_0 : l0_0.length ≤ c0_0) (hr0_1 : Kd.C (Kd.int .i64) w0 A0_1 l0_1.length l0_1) (hc0_1 : l0_1.length ≤ c0_1) (hr0_2 : Kd.C (Kd.int .i64) w0 A0_2 l0_2.length l0_2) (hc0_2 : l0_2.length ≤ c0_2) (hr0_3 : Kd.C (Kd.int .i64) w0 A0_3 l0_3.length l0_3) (hc0_3 : l0_3.length ≤ c0_3) (hr5 : Kd.C (Kd.int .i64) w0 A5 l5.length l5) (hc5 : l5.length ≤ c5) (k : Nat) :
  (∀ (a1 a2 a3 r : Int) (w : World), Below w0.heap.size w0 w → w.heap[gl]? = some (.cells #[.slice A0_0 l0_0.length c0_0, .slice A0_1 l0_1.length c0_1, .slice A0_2 l0_2.length c0_2, .slice A0_3 l0_3.length c0_3, .slice A5 l5.length c5, .bool a6, .map (some gm)] 55 (0, 0)) → Memo Try.prog 68 3 w gm (LimG l0_0 l0_1 l0_2 l0_3 l5 a6) → impl_limitedLeast.f k l0_0 l0_1 l0_2 l0_3 a1 a2 a3 l5 a6 = some r → Calls Try.prog 33 #[.pointer (some ⟨gl, 0, none⟩), .int .i64 a1, .int .i64 a2, .int .i64 a3] w fun e w' => e = .returned (.int .i64 r) ∧ w.grownBy w' (some gm) ∧ Memo Try.prog 68 3 w' gm (LimG l0_0 l0_1 l0_2 l0_3 l5 a6)) ∧
  (∀ (a1 a2 a3 a4 r : Int) (w : World), Below w0.heap.size w0 w → w.heap[gl]? = some (.cells #[.slice A0_0 l0_0.length c0_0, .slice A0_1 l0_1.length c0_1, .slice A0_2 l0_2.length c0_2, .slice A0_3 l0_3.length c0_3, .slice A5 l5.length c5, .bool a6, .map (some gm)] 55 (0, 0)) → Memo Try.prog 68 3 w gm (LimG l0_0 l0_1 l0_2 l0_3 l5 a6) → impl_limitedWith.f k l0_0 l0_1 l0_2 l0_3 a1 a2 a3 a4 l5 a6 = some r → Calls Try.prog 34 #[.pointer (some ⟨gl, 0, none⟩), .int .i64 a1, .int .i64 a2, .int .i64 a3, .int .i64 a4] w fun e w' => e = .returned (.int .i64 r) ∧ w.grownBy w' (some gm) ∧ Memo Try.prog 68 3 w' gm (LimG l0_0 l0_1 l0_2 l0_3 l5 a6)) := by
 have HR0_0 := am_ hr0_0
 have HC0_0 := am_ hc0_0
 have HR0_1 := am_ hr0_1
 have HC0_1 := am_ hc0_1
 have HR0_2 := am_ hr0_2
 have HC0_2 := am_ hc0_2
 have HR0_3 := am_ hr0_3
 have HC0_3 := am_ hc0_3
 have HR5 := am_ hr5
 have HC5 := am_ hc5
 have HGM := am_ hgm
 clear hr0_0 hc0_0 hr0_1 hc0_1 hr0_2 hc0_2 hr0_3 hc0_3 hr5 hc5 hgm
 induction k using Nat.strongRecOn with
 | _ k ih =>
 refine ⟨?_, ?_⟩
 ·
  intro a1 a2 a3 r w hB hl hm h
  cases k with
  | zero => exact absurd h (by simp [impl_limitedLeast.f])
  | succ k =>
  have HF := am_ h
  simp only [impl_limitedLeast.f] at h
  by_cases cg : (0 ≤ a1 ∧ a1 ≤ 8 ∧ 0 ≤ a2 ∧ a2 ≤ 1000 ∧ 0 ≤ a3 ∧ a3 ≤ 1)
  ·
   rw [if_pos cg] at h
   have CG := am_ (show InR a1 a2 a3 from cg)
   have c7 : 0 ≤ a1 := cg.1
   clear cg
   have c7b0 := eq_true c7
   have c7b1 : decide (0 ≤ a1) = true := decide_eq_true c7
   by_cases c8 : a1 ≤ (l0_0.length : Int)
   ·
    rw [if_pos c8] at h
    have c8b0 := eq_true c8
    have c8b1 : decide (a1 ≤ (l0_0.length : Int)) = true := decide_eq_true c8
    obtain ⟨t218, A90, H⟩ := Option.bind_eq_some_iff.mp h
    clear h
    have A9 := am_ A90
    clear A90
    have HB := am_ hB
    have HL := am_ hl
    have HM := am_ hm
    have hw0_ : w.cell? ⟨gl, 0, none⟩ = some (.slice A0_0 l0_0.length c0_0) := (kc_ hl 0).trans rfl
    have hw4_ : w.cell? ⟨gl, 4, none⟩ = some (.slice A5 l5.length c5) := (kc_ hl 4).trans rfl
    clear hB hl hm
    obtain ⟨i021, hi021, _, hsz21, _⟩ := info_parts info3
    obtain ⟨A21, hcut21, hA21, hC21⟩ := print_drop_of (P := Try.prog) (Value.int .i64) 0 22 3 .i64 Try.underlying22 hi021 hsz21 A0_0 c0_0 l0_0 a1 c7 c8 HC0_0.out
    have HR217 := am_ (Kd.C_of_reads (h1 := fun _ => rfl) (hA21 _ (Kd.reads_of_C HR0_0.out)))
    have HC217 := am_ hC21
    clear hA21 hC21 hi021 hsz21 c7 c8
    by_cases c10 : a2 > t218
    ·
     rw [if_pos c10] at H
     have c10b0 : decide (t218 < a2) = true := decide_eq_true c10
     clear c10
     obtain rfl := Option.some.inj H
     go_enter Try.func33, Try.ntmps33
     go_wp2_with (first | ((with_reducible refine gc_ (f := 40) rfl ?_); refine goesL_ (some 23) rfl rfl Try.func40 (by kernel_rfl) rfl #[.slice A21 (l0_0.drop (a1 : Int).toNat).length (c0_0 - a1.toNat)] rfl (by (try simp only [List.map_toArray, List.map_cons, List.map_nil]); first | done | (rw [show (l0_0.drop (a1 : Int).toNat).length = (l0_0.length - a1.toNat) from List.length_drop] <;> rfl) | rfl | (simp only [List.length_drop, List.length_take]; rfl)) ?_; (with_reducible refine (impl_total.calls k _ _ (l0_0.drop (a1 : Int).toNat) t218 _ ?side1 ?side2 A9.out).mono ?_); (case side1 => exact cb_ HR217.out HB.out); (case side2 => exact HC217.out); rintro e w' ⟨rfl, ⟨nd, rfl⟩⟩; refine ⟨_, rfl, ?_⟩))
     go_ret
     exact ⟨rfl, growM (pw_below_drewN (Below.refl w.heap.size w) nd) (some gm), memo_below HM.out (pw_below_drewN (Below.refl w.heap.size w) nd)⟩
    ·
     rw [if_neg c10] at H
     have c10b0 : decide (t218 < a2) = false := decide_eq_false c10
     clear c10
     by_cases c14 : a1 = (l0_0.length : Int)
     ·
      rw [if_pos c14] at H
      have c14b0 : (a1 == (l0_0.length : Int)) = true := beq_iff_eq.mpr c14
      have c14b1 : (a1 != (l0_0.length : Int)) = false := bne_eq_false_iff_eq.mpr c14
      clear c14
      obtain rfl := Option.some.inj H
      go_enter Try.func33, Try.ntmps33
      go_wp2_with (first | ((with_reducible refine gc_ (f := 40) rfl ?_); refine goesL_ (some 23) rfl rfl Try.func40 (by kernel_rfl) rfl #[.slice A21 (l0_0.drop (a1 : Int).toNat).length (c0_0 - a1.toNat)] rfl (by (try simp only [List.map_toArray, List.map_cons, List.map_nil]); first | done | (rw [show (l0_0.drop (a1 : Int).toNat).length = (l0_0.length - a1.toNat) from List.length_drop] <;> rfl) | rfl | (simp only [List.length_drop, List.length_take]; rfl)) ?_; (with_reducible refine (impl_total.calls k _ _ (l0_0.drop (a1 : Int).toNat) t218 _ ?side1 ?side2 A9.out).mono ?_); (case side1 => exact cb_ HR217.out HB.out); (case side2 => exact HC217.out); rintro e w' ⟨rfl, ⟨nd, rfl⟩⟩; refine ⟨_, rfl, ?_⟩))
      go_ret
      exact ⟨rfl, growM (pw_below_drewN (Below.refl w.heap.size w) nd) (some gm), memo_below HM.out (pw_below_drewN (Below.refl w.heap.size w) nd)⟩
     ·
      rw [if_neg c14] at H
      have c14b0 : (a1 == (l0_0.length : Int)) = false := beq_eq_false_iff_ne.mpr c14
      have c14b1 : (a1 != (l0_0.length : Int)) = true := bne_iff_ne.mpr c14
      clear c14
      by_cases c18 : a1 < (l5.length : Int)
      ·
       rw [if_pos c18] at H
       have c18b0 : decide (a1 < (l5.length : Int)) = true := decide_eq_true c18
       clear c18
       have H' := am_ H
       clear H
       go_enter Try.func33, Try.ntmps33
       go_wp2_with (first | ((with_reducible refine gc_ (f := 40) rfl ?_); refine goesL_ (some 23) rfl rfl Try.func40 (by kernel_rfl) rfl #[.slice A21 (l0_0.drop (a1 : Int).toNat).length (c0_0 - a1.toNat)] rfl (by (try simp only [List.map_toArray, List.map_cons, List.map_nil]); first | done | (rw [show (l0_0.drop (a1 : Int).toNat).length = (l0_0.length - a1.toNat) from List.length_drop] <;> rfl) | rfl | (simp only [List.length_drop, List.length_take]; rfl)) ?_; (with_reducible refine (impl_total.calls k _ _ (l0_0.drop (a1 : Int).toNat) t218 _ ?side1 ?side2 A9.out).mono ?_); (case side1 => exact cb_ HR217.out HB.out); (case side2 => exact HC217.out); rintro e w' ⟨rfl, ⟨nd, rfl⟩⟩; refine ⟨_, rfl, ?_⟩) | ((with_reducible refine gate_dst (N := 9) rfl ?_); refine box_event ?hg (N := 9) ?hd (cs := #[.int .i64 0, .int .i64 0, .int .i64 0]) (t := 68) ?hr ?_; (case hd => rfl); (case hg => rfl); (case hr => first | (go_simp; done) | (go_simp; rfl)); intro gy hgy wk hboxk hbk; have BKk := am_ hboxk; have GEk := am_ (by rw [hgy]; exact Nat.le_refl _ : w.heap.size ≤ gy); have HBk := am_ (bp_ (pw_below_drewN (Below.refl w.heap.size w) nd) hbk); have hck0_ : wk.cell? ⟨gy, 0, none⟩ = some (.int .i64 0) := (kc_ hboxk 0).trans rfl; have hck1_ : wk.cell? ⟨gy, 1, none⟩ = some (.int .i64 0) := (kc_ hboxk 1).trans rfl; have hck2_ : wk.cell? ⟨gy, 2, none⟩ = some (.int .i64 0) := (kc_ hboxk 2).trans rfl; have hfk0_ := kf_ hboxk 0; have hfk1_ := kf_ hboxk 1; have hfk2_ := kf_ hboxk 2; clear hgy hboxk hbk) | ((with_reducible refine gate_store (t := 68) (p := 9) rfl ?_); refine store_event (t := 68) (p := 9) (v := .tmp 37) (w1 := ((wk.setCell ⟨gy, 0, none⟩ (.int .i64 a1)).setCell ⟨gy, 1, none⟩ (.int .i64 a2)).setCell ⟨gy, 2, none⟩ (.int .i64 a3)) ?hg ?ho ?hn ?hr ?_; (case ho => rfl); (case hg => rfl); (case hn => rfl); (case hr => first | (go_simp; done) | (go_simp; rfl)); intro w5 hw5; have BK5 := am_ (by rw [hw5]; exact blk_put (blk_put (blk_put BKk.out 0 _ rfl) 1 _ rfl) 2 _ rfl : w5.heap[gy]? = some (.cells #[.int .i64 a1, .int .i64 a2, .int .i64 a3] 68 (0, 0))); have HB5 := am_ (by rw [hw5]; exact bs_ (bs_ (bs_ HBk.out GEk.out) GEk.out) GEk.out : Below w.heap.size w w5); clear hw5 hck0_ hck1_ hck2_ hfk0_ hfk1_ hfk2_))
       have HL5 := am_ (kb_ HL.out HB5.out)
       have HM5 := am_ (memo_below HM.out HB5.out)
       have HBB := am_ (bp_ HB.out HB5.out)
       have h56_ : w5.cell? ⟨gl, 6, none⟩ = some (.map (some gm)) := (kc_ HL5.out 6).trans rfl
       have h54_ : w5.cell? ⟨gl, 4, none⟩ = some (.slice A5 l5.length c5) := (kc_ HL5.out 4).trans rfl
       have hk50_ : w5.cell? ⟨gy, 0, none⟩ = some (.int .i64 a1) := (kc_ BK5.out 0).trans rfl
       have hk51_ : w5.cell? ⟨gy, 1, none⟩ = some (.int .i64 a2) := (kc_ BK5.out 1).trans rfl
       have hk52_ : w5.cell? ⟨gy, 2, none⟩ = some (.int .i64 a3) := (kc_ BK5.out 2).trans rfl
       obtain ⟨cc, ok, hlook, hG⟩ := memo_looks HM5.out lim_keyed Try.underlying53 Try.underlying3 lim_zero (lim_key CG.out)
       unfold key3 at hlook
       have HG := am_ hG
       clear hG
       cases ok with
       | true =>
        obtain ⟨k', hk'⟩ := HG.out rfl
        have hrc := impl_limitedLeast.one HF.out hk'
        subst hrc
        go_quiet (fail)
        go_wp2
        go_ret
        exact ⟨rfl, growM (pw_below_drewN HB5.out nq) (some gm), memo_below HM.out (pw_below_drewN HB5.out nq)⟩
       | false =>
        clear HG
        have p219 : 0 ≤ (a1 : Int) := of_decide_eq_true (by first | (with_reducible assumption) | assumption)
        have q219 : a1 < (l5.length : Int) := of_decide_eq_true (by first | (with_reducible assumption) | assumption)
        obtain ⟨ad219, e219, hx219_0⟩ := Kd.at_int HR5.out a1 p219 q219
        cases e219
        replace hx219_0 := (HBB.out.cell (World.block_lt_of_cell? w0 _ hx219_0)).trans hx219_0
        replace p219 := eq_true p219
        replace q219 := eq_true q219
        go_quiet (fail)
        go_wp2
        go_loopg [12, 57] k (fun kq v12 v57 w' => ∃ (x12_1 : Int) (x57_1 : Int), v12 = .int .i64 x12_1 ∧ v57 = .int .i64 x57_1 ∧ Aside0 (impl_limitedLeast.l0 kq a1 a2 a3 l5 a6 x12_1 (wrap64 ((rd l5 a1) + 1)) x57_1 l0_0 l0_1 l0_2 l0_3 = some r) ∧ Aside0 (kq ≤ k) ∧ Aside0 (-9223372036854775808 ≤ x12_1 ∧ x12_1 ≤ 9223372036854775807) ∧ Aside0 (w.grownBy w' (some gm)) ∧ Aside0 (Memo Try.prog 68 3 w' gm (LimG l0_0 l0_1 l0_2 l0_3 l5 a6)) ∧ Aside0 (w'.heap[gy]? = some (.cells #[.int .i64 a1, .int .i64 a2, .int .i64 a3] 68 (0, 0))))
        case atStart => exact ⟨(1099511627776), (0), (by first | rfl | (simp; done) | (simp [*]; done)), (by first | rfl | (simp; done) | (simp [*]; done)), H', ⟨Nat.le_refl _⟩, ⟨by decide⟩, ⟨growM (pw_below_drewN HB5.out nq) (some gm)⟩, ⟨memo_below HM.out (pw_below_drewN HB5.out nq)⟩, ⟨kn_ BK5.out nq⟩⟩
        case round =>
         clear H' hlook HM5 HL5 HBB BK5 HB5
         obtain ⟨x12_1, x57_1, rfl, rfl, HA, HK1, HW, GR, HMr, BKr⟩ := hrel
         have HLr := am_ (blk_grown HL.out GR.out (fun e => memo_ne HM.out HL.out (Option.some.inj e)))
         have HBr := am_ (HB.out.grown GR.out HB.out.size (fun j e => by cases e; exact HGM.out))
         have hkm := memo_ne HMr.out BKr.out
         cases gk with
         | zero => exact absurd HA.out (by simp [impl_limitedLeast.l0])
         | succ k1 =>
          have H := HA.out
          clear HA
          simp only [impl_limitedLeast.l0] at H
          by_cases c22 : x57_1 < (wrap64 ((rd l5 a1) + 1))
          ·
           rw [if_pos c22] at H
           have c22b0 : decide (x57_1 < (wrap64 ((rd l5 a1) + 1))) = true := decide_eq_true c22
           clear c22
           obtain ⟨t220, A230, H⟩ := Option.bind_eq_some_iff.mp H
           have hwt := limited_wf A230
           have A23 := am_ A230
           clear A230
           obtain ⟨ji24, hji24⟩ : ∃ j_ : Int, (mn x12_1 t220) = j_ := ⟨_, rfl⟩
           rw [hji24] at H
           have hji24_ : (if t220 < x12_1 then t220 else x12_1) = ji24 := hji24
           have HWj := am_ (show -9223372036854775808 ≤ ji24 ∧ ji24 ≤ 9223372036854775807 by have := HW.out; rw [← hji24]; unfold mn; split <;> omega)
           clear hwt
           have H' := am_ H
           clear H
           go_wp2_with (first | ((with_reducible refine gc_ (f := 34) rfl ?_); refine goesL_ (some 66) rfl rfl Try.func34 (by kernel_rfl) rfl #[.pointer (some ⟨gl, 0, none⟩), .int .i64 a1, .int .i64 a2, .int .i64 a3, .int .i64 x57_1] rfl (by (try simp only [List.map_toArray, List.map_cons, List.map_nil]); first | done | rfl) ?_; refine ((ih k1 (by have := HK1.out; omega)).2 a1 a2 a3 x57_1 t220 _ HBr.out HLr.out HMr.out A23.out).mono ?_; rintro e w6 ⟨rfl, hg6, hm6⟩; refine ⟨_, rfl, ?_⟩; have GR6 := am_ (transM GR.out hg6); have HM6 := am_ hm6; have BK6 := am_ (blk_grown BKr.out hg6 (fun e => hkm (Option.some.inj e))); clear hg6 hm6))
           go_roundg k1
           case measure => have := HK1.out; omega
           case rel => exact ⟨(ji24), (wrap64 (x57_1 + 1)), (by first | rfl | (simp; done) | (simp only [← hji24] <;> (first | rfl | simp)) | (simp [*]; done)), (by first | rfl | (simp; done) | (simp [*]; done)), H', ⟨by have := HK1.out; omega⟩, HWj, GR6, HM6, BK6⟩
          ·
           rw [if_neg c22] at H
           have c22b0 : decide (x57_1 < (wrap64 ((rd l5 a1) + 1))) = false := decide_eq_false c22
           clear c22
           obtain rfl := Option.some.inj H
           clear H
           have hw2_ : (Lit.int .i64 x12_1).wf = true := by simp only [Lit.wf, Bool.and_eq_true, decide_eq_true_eq]; exact HW.out
           go_wp2
           have HLd := am_ (show (World.drew _).heap[gl]? = _ from HLr.out)
           have HMd := am_ (memo_below HMr.out (bd_ (Below.refl _ _)))
           have BKd := am_ (show (World.drew _).heap[gy]? = _ from BKr.out)
           have GRd := am_ (transM GR.out (growM (bd_ (Below.refl _ _)) (some gm)))
           refine start_ (n := 7) (S := fun w' => w'.cell? ⟨gl, 6, none⟩ = some (.map (some gm)) ∧ w'.cell? ⟨gy, 0, none⟩ = some (.int .i64 a1) ∧ w'.cell? ⟨gy, 1, none⟩ = some (.int .i64 a2) ∧ w'.cell? ⟨gy, 2, none⟩ = some (.int .i64 a3)) (ds := []) #[false, false, false, false, false, false, false] (by kernel_rfl) rfl rfl ⟨(kc_ HLd.out 6).trans rfl, (kc_ BKd.out 0).trans rfl, (kc_ BKd.out 1).trans rfl, (kc_ BKd.out 2).trans rfl⟩ (fun hHeld => ?_); refine with_tabW impl_limitedLeast.tab15 impl_limitedLeast.bits15 (fun HT_ HW_ => ?_)
           generalize wr.drew = w7 at HLd HMd BKd GRd hHeld ⊢
           refine pure_ (i := 0) (N := some 69) (v := ?_) (a' := ?_) #[true, false, false, false, false, false, false] rfl rfl (any_of HT_.out (by kernel_rfl)) (fun _ _ _ h => h) (Or.inl ⟨by rfl, ?_⟩) ?_ ?_
           rotate_left
           ·
            intro w'
            go_simp
            with_reducible rfl
           rotate_left
           ·
            simp only [Act.put, List.setIfInBounds_toArray, List.set_cons_zero, List.set_cons_succ, i64_w, i32_w]
            rfl
           refine pure_ (i := 1) (N := some 70) (v := ?_) (a' := ?_) #[true, true, false, false, false, false, false] rfl rfl (any_of HT_.out (by kernel_rfl)) (fun _ _ _ h => h) (Or.inl ⟨by rfl, ?_⟩) ?_ ?_
           rotate_left
           ·
            intro w'
            go_simp
            with_reducible rfl
           rotate_left
           ·
            simp only [Act.put, List.setIfInBounds_toArray, List.set_cons_zero, List.set_cons_succ, i64_w, i32_w]
            rfl
           refine pure_ (i := 2) (N := some 71) (v := ?_) (a' := ?_) #[true, true, true, false, false, false, false] rfl rfl (any_of HT_.out (by kernel_rfl)) (fun _ _ _ h => h) (Or.inl ⟨by rfl, ?_⟩) ?_ ?_
           rotate_left
           ·
            intro w'
            go_simp
            with_reducible rfl
           rotate_left
           ·
            simp only [Act.put, List.setIfInBounds_toArray, List.set_cons_zero, List.set_cons_succ, i64_w, i32_w]
            rfl
           refine take_ (i := 3) (N := some 72) (v := ?_) (a' := ?_) #[true, true, true, true, false, false, false] rfl rfl (take_ofW HT_.out HW_.out (by kernel_rfl)) (fun _ _ _ h => h) (Or.inl ⟨by rfl, ?_⟩) hHeld ?_ ?_
           rotate_left
           ·
            rintro w' ⟨s0, s1, s2, s3⟩
            go_simp
            with_reducible rfl
           rotate_left
           ·
            simp only [Act.put, List.setIfInBounds_toArray, List.set_cons_zero, List.set_cons_succ, i64_w, i32_w]
            rfl
           refine take_ (i := 4) (N := some 73) (v := ?_) (a' := ?_) #[true, true, true, true, true, false, false] rfl rfl (take_ofW HT_.out HW_.out (by kernel_rfl)) (fun _ _ _ h => h) (Or.inl ⟨by rfl, ?_⟩) hHeld ?_ ?_
           rotate_left
           ·
            rintro w' ⟨s0, s1, s2, s3⟩
            go_simp
            with_reducible rfl
           rotate_left
           ·
            simp only [Act.put, List.setIfInBounds_toArray, List.set_cons_zero, List.set_cons_succ, i64_w, i32_w]
            rfl
           refine pure_ (i := 5) (N := some 74) (v := ?_) (a' := ?_) #[true, true, true, true, true, true, false] rfl rfl (any_of HT_.out (by kernel_rfl)) (fun _ _ _ h => h) (Or.inl ⟨by rfl, ?_⟩) ?_ ?_
           rotate_left
           ·
            intro w'
            go_simp
            with_reducible rfl
           rotate_left
           ·
            simp only [Act.put, List.setIfInBounds_toArray, List.set_cons_zero, List.set_cons_succ, i64_w, i32_w]
            rfl
           refine one_ (i := 6) (N := none) #[true, true, true, true, true, true, true] rfl rfl (one_of HT_.out (by kernel_rfl)) (by decide) (fun K hK => ?_)
           obtain ⟨w8, hup, hm8, hg8⟩ := memo_store HMd.out lim_keyed Try.underlying53 Try.underlying3 CG.out (lim_key CG.out) hw2_ ⟨_, HF.out⟩
           unfold key3 at hup
           refine skip_ (w1 := w8) (by rfl) rfl ?_ ?_
           ·
            first | (go_simp; done) | (go_simp; rfl)
           have HL8 := am_ (blk_grown HLd.out hg8 (fun e => memo_ne HMd.out HLd.out (Option.some.inj e)))
           have BK8 := am_ (blk_grown BKd.out hg8 (fun e => memo_ne HMd.out BKd.out (Option.some.inj e)))
           refine hK.out _ _ ⟨(kc_ HL8.out 6).trans rfl, (kc_ BK8.out 0).trans rfl, (kc_ BK8.out 1).trans rfl, (kc_ BK8.out 2).trans rfl⟩ (fun hHeld => ?_)
           clear hK K
           refine done_ (done_of HT_.out (by kernel_rfl)) ?_
           try go_wp2
           go_ret
           exact ⟨rfl, transM GRd.out hg8, hm8⟩
      ·
       rw [if_neg c18] at H
       exact absurd H (by simp)
   ·
    rw [if_neg c8] at h
    exact absurd h (by simp)
  ·
   rw [if_neg cg] at h
   exact absurd h (by simp)
 ·
  intro a1 a2 a3 a4 r w hB hl hm h
  cases k with
  | zero => exact absurd h (by simp [impl_limitedWith.f])
  | succ k =>
  simp only [impl_limitedWith.f] at h
  obtain ⟨⟨t1, t2, t3⟩, AA0, H⟩ := Option.bind_eq_some_iff.mp h
  clear h
  have AA := am_ AA0
  clear AA0
  have HB := am_ hB
  have HL := am_ hl
  have HM := am_ hm
  clear hB hl hm
  by_cases c3 : t3 = 1099511627776
  ·
   subst c3
   rw [if_pos rfl] at H
   obtain rfl := Option.some.inj H
   go_enter Try.func34, Try.ntmps34
   go_wp2_with (first | ((with_reducible refine gc_ (f := 35) rfl ?_); refine goesL_ (some 20) rfl rfl Try.func35 (by kernel_rfl) rfl #[.pointer (some ⟨gl, 0, none⟩), .int .i64 a1, .int .i64 a2, .int .i64 a3, .int .i64 a4] rfl (by (try simp only [List.map_toArray, List.map_cons, List.map_nil]); first | done | rfl) ?_; refine (impl_limitedAfter.calls k _ _ l0_0 _ _ l0_1 _ _ l0_2 _ _ l0_3 a1 a2 a3 a4 _ _ l5 a6 _ _ _ gl gm _ HL.out (cb_ HR0_0.out HB.out) HC0_0.out (cb_ HR0_1.out HB.out) HC0_1.out (cb_ HR0_2.out HB.out) HC0_2.out (cb_ HR0_3.out HB.out) HC0_3.out (cb_ HR5.out HB.out) HC5.out AA.out).mono ?_; rintro e w1 ⟨rfl, hb1⟩; refine ⟨_, rfl, ?_⟩; have GR1 := am_ (growM hb1 (some gm)); have HM1 := am_ (memo_below HM.out hb1); have HL1 := am_ (kb_ HL.out hb1); have HB1 := am_ (bp_ HB.out hb1); clear hb1))
   go_ret
   exact ⟨rfl, GR1.out, HM1.out⟩
  ·
   rw [if_neg c3] at H
   have c3b0 : (t3 == 1099511627776) = false := beq_eq_false_iff_ne.mpr c3
   obtain ⟨t5, A50, H⟩ := Option.bind_eq_some_iff.mp H
   have A5_ := am_ A50
   clear A50
   obtain ⟨m5, hm5⟩ : ∃ m_ : Int, mn 1099511627776 (wrap64 (t3 + t5)) = m_ := ⟨_, rfl⟩
   rw [hm5] at H
   have hm5_ : (if wrap64 (t3 + t5) < 1099511627776 then wrap64 (t3 + t5) else 1099511627776) = m5 := hm5
   obtain rfl := Option.some.inj H
   go_enter Try.func34, Try.ntmps34
   go_wp2_with (first | ((with_reducible refine gc_ (f := 35) rfl ?_); refine goesL_ (some 20) rfl rfl Try.func35 (by kernel_rfl) rfl #[.pointer (some ⟨gl, 0, none⟩), .int .i64 a1, .int .i64 a2, .int .i64 a3, .int .i64 a4] rfl (by (try simp only [List.map_toArray, List.map_cons, List.map_nil]); first | done | rfl) ?_; refine (impl_limitedAfter.calls k _ _ l0_0 _ _ l0_1 _ _ l0_2 _ _ l0_3 a1 a2 a3 a4 _ _ l5 a6 _ _ _ gl gm _ HL.out (cb_ HR0_0.out HB.out) HC0_0.out (cb_ HR0_1.out HB.out) HC0_1.out (cb_ HR0_2.out HB.out) HC0_2.out (cb_ HR0_3.out HB.out) HC0_3.out (cb_ HR5.out HB.out) HC5.out AA.out).mono ?_; rintro e w1 ⟨rfl, hb1⟩; refine ⟨_, rfl, ?_⟩; have GR1 := am_ (growM hb1 (some gm)); have HM1 := am_ (memo_below HM.out hb1); have HL1 := am_ (kb_ HL.out hb1); have HB1 := am_ (bp_ HB.out hb1); clear hb1) | ((with_reducible refine gc_ (f := 33) rfl ?_); refine goesL_ (some 32) rfl rfl Try.func33 (by kernel_rfl) rfl #[.pointer (some ⟨gl, 0, none⟩), .int .i64 (wrap64 (a1 + 1)), .int .i64 t1, .int .i64 t2] rfl (by (try simp only [List.map_toArray, List.map_cons, List.map_nil]); first | done | rfl) ?_; refine ((ih k (Nat.lt_succ_self k)).1 (wrap64 (a1 + 1)) t1 t2 t5 w1 HB1.out HL1.out HM1.out A5_.out).mono ?_; rintro e w2 ⟨rfl, hg2, hm2⟩; refine ⟨_, rfl, ?_⟩; have GR2 := am_ (transM GR1.out hg2); have HM2 := am_ hm2; clear hg2 hm2))
   go_ret
   exact ⟨by first | rfl | (simp [*]; done), GR2.out, HM2.out⟩
/-! ### impl_limitedPlanOf: function 26 -/
mutual
def impl_limitedPlanOf.l0 : Nat → List Int → Bool → List Int → Int → Int → Int → Int → List Int → List Int → List Int → List Int → Option (List Int × Int)
 | 0, _, _, _, _, _, _, _, _, _, _, _ => none
 | k + 1, x1, x2, x4, x5, x6, x16, x17, x222000, x222001, x222002, x222003 => if x17 < x16 then ((impl_limitedLeast.f k x222000 x222001 x222002 x222003 x17 x5 x6 x1 x2).bind fun t226 => (impl_limitedPlanOf.l1 k x1 x2 x4 x5 x6 x17 0 t226 x16 x17 x222000 x222001 x222002 x222003)) else ((impl_limitedLeast.f k x222000 x222001 x222002 x222003 0 0 0 x1 x2).bind fun t225 => (some (x4, t225)))
def impl_limitedPlanOf.l1 : Nat → List Int → Bool → List Int → Int → Int → Int → Int → Int → Int → Int → List Int → List Int → List Int → List Int → Option (List Int × Int)
 | 0, _, _, _, _, _, _, _, _, _, _, _, _, _, _ => none
 | k + 1, x1, x2, x4, x5, x6, x7, x8, x9, x16, x17, x222000, x222001, x222002, x222003 => (impl_limitedWith.f k x222000 x222001 x222002 x222003 x7 x5 x6 x8 x1 x2).bind fun t227 => (if t227 = x9 then (if x4.length < 17592186044416 then ((impl_limitedAfter.f k x222000 x222001 x222002 x222003 x7 x5 x6 x8 x1 x2).bind fun bt231 => (impl_limitedPlanOf.l0 k x1 x2 (x4 ++ [x8]) bt231.1 bt231.2.1 x16 (wrap64 (x17 + 1)) x222000 x222001 x222002 x222003)) else (none)) else (impl_limitedPlanOf.l1 k x1 x2 x4 x5 x6 x7 (wrap64 (x8 + 1)) x9 x16 x17 x222000 x222001 x222002 x222003))
end
def impl_limitedPlanOf.f (k : Nat) (l0_0 : List Int) (l0_1 : List Int) (l0_2 : List Int) (l0_3 : List Int) (l1 : List Int) (a2 : Bool) : Option (List Int × Int) := impl_limitedPlanOf.l0 k l1 a2 (([] : List Int)) 0 0 (l0_0.length : Int) 0 l0_0 l0_1 l0_2 l0_3
theorem impl_limitedPlanOf.mono_l : ∀ k, (∀ y0 y1 y2 y3 y4 y5 y6 y7 y8 y9 y10, LeO (impl_limitedPlanOf.l0 k y0 y1 y2 y3 y4 y5 y6 y7 y8 y9 y10) (impl_limitedPlanOf.l0 (k + 1) y0 y1 y2 y3 y4 y5 y6 y7 y8 y9 y10)) ∧ (∀ y0 y1 y2 y3 y4 y5 y6 y7 y8 y9 y10 y11 y12 y13, LeO (impl_limitedPlanOf.l1 k y0 y1 y2 y3 y4 y5 y6 y7 y8 y9 y10 y11 y12 y13) (impl_limitedPlanOf.l1 (k + 1) y0 y1 y2 y3 y4 y5 y6 y7 y8 y9 y10 y11 y12 y13))
 | 0 => ⟨fun _ _ _ _ _ _ _ _ _ _ _ r h => by simp [impl_limitedPlanOf.l0] at h, fun _ _ _ _ _ _ _ _ _ _ _ _ _ _ r h => by simp [impl_limitedPlanOf.l1] at h⟩
 | k + 1 => by
  obtain ⟨ih0, ih1⟩ := impl_limitedPlanOf.mono_l k
  refine ⟨?_, ?_⟩
  ·
   intro y0 y1 y2 y3 y4 y5 y6 y7 y8 y9 y10
   unfold impl_limitedPlanOf.l0
   repeat' first
   | (with_reducible exact ih0 _ _ _ _ _ _ _ _ _ _ _)
   | (with_reducible exact ih1 _ _ _ _ _ _ _ _ _ _ _ _ _ _)
   | (with_reducible exact impl_limitedAfter.mono _ _ _ _ _ _ _ _ _ _ _)
   | (with_reducible exact impl_limitedWith.mono _ _ _ _ _ _ _ _ _ _ _)
   | (with_reducible exact impl_limitedLeast.mono _ _ _ _ _ _ _ _ _ _)
   | (with_reducible exact LeO.refl _)
   | (with_reducible exact LeO.none _)
   | (with_reducible refine LeO.ite ?_ ?_)
   | (with_reducible refine LeO.bind ?_ (fun _ => ?_))
   | exact ih0 _ _ _ _ _ _ _ _ _ _ _
   | exact ih1 _ _ _ _ _ _ _ _ _ _ _ _ _ _
   | exact impl_limitedAfter.mono _ _ _ _ _ _ _ _ _ _ _
   | exact impl_limitedLeast.mono _ _ _ _ _ _ _ _ _ _
   | exact LeO.none _
   | refine LeO.ite ?_ ?_
   | refine LeO.bind ?_ (fun _ => ?_)
  ·
   intro y0 y1 y2 y3 y4 y5 y6 y7 y8 y9 y10 y11 y12 y13
   unfold impl_limitedPlanOf.l1
   repeat' first
   | (with_reducible exact ih0 _ _ _ _ _ _ _ _ _ _ _)
   | (with_reducible exact ih1 _ _ _ _ _ _ _ _ _ _ _ _ _ _)
   | (with_reducible exact impl_limitedAfter.mono _ _ _ _ _ _ _ _ _ _ _)
   | (with_reducible exact impl_limitedWith.mono _ _ _ _ _ _ _ _ _ _ _)
   | (with_reducible exact impl_limitedLeast.mono _ _ _ _ _ _ _ _ _ _)
   | (with_reducible exact LeO.refl _)
   | (with_reducible exact LeO.none _)
   | (with_reducible refine LeO.ite ?_ ?_)
   | (with_reducible refine LeO.bind ?_ (fun _ => ?_))
   | exact ih0 _ _ _ _ _ _ _ _ _ _ _
   | exact ih1 _ _ _ _ _ _ _ _ _ _ _ _ _ _
   | exact impl_limitedAfter.mono _ _ _ _ _ _ _ _ _ _ _
   | exact impl_limitedLeast.mono _ _ _ _ _ _ _ _ _ _
   | exact LeO.none _
   | refine LeO.ite ?_ ?_
   | refine LeO.bind ?_ (fun _ => ?_)
theorem impl_limitedPlanOf.mono : ∀ a0 a1 a2 a3 a4 a5 k, LeO (impl_limitedPlanOf.f k a0 a1 a2 a3 a4 a5) (impl_limitedPlanOf.f (k + 1) a0 a1 a2 a3 a4 a5) := by
 intro a0 a1 a2 a3 a4 a5 k
 obtain ⟨ih0, ih1⟩ := impl_limitedPlanOf.mono_l k
 unfold impl_limitedPlanOf.f
 repeat' first
   | (with_reducible exact ih0 _ _ _ _ _ _ _ _ _ _ _)
   | (with_reducible exact ih1 _ _ _ _ _ _ _ _ _ _ _ _ _ _)
   | (with_reducible exact impl_limitedAfter.mono _ _ _ _ _ _ _ _ _ _ _)
   | (with_reducible exact impl_limitedWith.mono _ _ _ _ _ _ _ _ _ _ _)
   | (with_reducible exact impl_limitedLeast.mono _ _ _ _ _ _ _ _ _ _)
   | (with_reducible exact LeO.refl _)
   | (with_reducible exact LeO.none _)
   | (with_reducible refine LeO.ite ?_ ?_)
   | (with_reducible refine LeO.bind ?_ (fun _ => ?_))
   | exact ih0 _ _ _ _ _ _ _ _ _ _ _
   | exact ih1 _ _ _ _ _ _ _ _ _ _ _ _ _ _
   | exact impl_limitedAfter.mono _ _ _ _ _ _ _ _ _ _ _
   | exact impl_limitedLeast.mono _ _ _ _ _ _ _ _ _ _
   | exact LeO.none _
   | refine LeO.ite ?_ ?_
   | refine LeO.bind ?_ (fun _ => ?_)
set_option maxHeartbeats 8000000 in
set_option maxRecDepth 100000 in
theorem impl_limitedPlanOf.calls (k : Nat) (gl gm : Nat) (A0_0 : Option Addr) (c0_0 : Nat) (l0_0 : List Int) (A0_1 : Option Addr) (c0_1 : Nat) (l0_1 : List Int) (A0_2 : Option Addr) (c0_2 : Nat) (l0_2 : List Int) (A0_3 : Option Addr) (c0_3 : Nat) (l0_3 : List Int) (A5 : Option Addr) (c5 : Nat) (l5 : List Int) (a6 : Bool) (w0 w : World) (hgm : w0.heap.size ≤ gm) (hr0_0 : Kd.C (Kd.int .i64) w0 A0_0 l0_0.length l0_0) (hc0_0 : l0_0.length ≤ c0_0) (hr0_1 : Kd.C (Kd.int .i64) w0 A0_1 l0_1.length l0_1) (hc0_1 : l0_1.length ≤ c0_1) (hr0_2 : Kd.C (Kd.int .i64) w0 A0_2 l0_2.length l0_2) (hc0_2 : l0_2.length ≤ c0_2) (hr0_3 : Kd.C (Kd.int .i64) w0 A0_3 l0_3.length l0_3) (hc0_3 : l0_3.length ≤ c0_3) (hr5 : Kd.C (Kd.int .i64) w0 A5 l5.length l5) (hc5 : l5.length ≤ c5) (hB : Below w0.heap.size w0 w) (hl : w.heap[gl]? = some (.cells #[.slice A0_0 l0_0.length c0_0, .slice A0_1 l0_1.length c0_1, .slice A0_2 l0_2.length c0_2, .slice A0_3 l0_3.length c0_3, .slice A5 l5.length c5, .bool a6, .map (some gm)] 55 (0, 0))) (hm : Memo Try.prog 68 3 w gm (LimG l0_0 l0_1 l0_2 l0_3 l5 a6)) (r1 : List Int) (r2 : Int) (h : impl_limitedPlanOf.f k l0_0 l0_1 l0_2 l0_3 l5 a6 = some (r1, r2)) :
  Calls Try.prog 26 #[.pointer (some ⟨gl, 0, none⟩)] w fun e w' => ∃ v0_ : Value, e = .returned (.tuple #[v0_, .int .i64 r2]) ∧ Kd.R (Kd.int .i64) 3 w' w0.heap.size (fun _ => True) v0_ r1 ∧ Below w0.heap.size w0 w' := by
 have HR0_0 := am_ hr0_0
 have HC0_0 := am_ hc0_0
 have HR0_1 := am_ hr0_1
 have HC0_1 := am_ hc0_1
 have HR0_2 := am_ hr0_2
 have HC0_2 := am_ hc0_2
 have HR0_3 := am_ hr0_3
 have HC0_3 := am_ hc0_3
 have HR5 := am_ hr5
 have HC5 := am_ hc5
 have HGM := am_ hgm
 clear hr0_0 hc0_0 hr0_1 hc0_1 hr0_2 hc0_2 hr0_3 hc0_3 hr5 hc5 hgm
 have HB := am_ hB
 have HL := am_ hl
 have HM := am_ hm
 clear hB hl hm
 have H' := am_ (show (impl_limitedPlanOf.l0 k l5 a6 (([] : List Int)) 0 0 (l0_0.length : Int) 0 l0_0 l0_1 l0_2 l0_3) = some (r1, r2) from h)
 clear h
 go_enter Try.func26, Try.ntmps26
 go_wp2_with (first | ((with_reducible refine gate_dst (N := 10) rfl ?_); refine Kd.R_lit (Kd.int .i64) _ 3 ?hg (N := 10) ?hd (xs := ([] : List Int)) (inner := []) (ok := fun _ => True) (okp := fun _ => True) ?hr ?hp (fun _ hk => hk) trivial (Below.refl _ _) (Nat.le_refl _) (by simp) ?_; (case hd => rfl); (case hg => rfl); (case hr => first | (go_simp; done) | (go_simp; rfl)); (case hp => exact (Reps.none _ _)); intro v223 w5 ho6 hb hg_ hnew_; clear hg_ hnew_; have HO := am_ (Kd.R_lower ho6 HB.out.size); have n0_ := am_ (kb_ HL.out hb); have n1_ := am_ (memo_below HM.out hb); have n2_ := am_ (bp_ HB.out hb); clear HL HM HB; have HL := n0_; have HM := n1_; have HB := n2_; clear n0_ n1_ n2_ hb ho6; have hl0_ : w5.cell? ⟨gl, 0, none⟩ = some (.slice A0_0 l0_0.length c0_0) := (kc_ HL.out 0).trans rfl))
 go_loopg [4, 5, 6, 17] k (fun kq v4 v5 v6 v17 w' => ∃ (x4_1 : List Int) (x5_1 : Int) (x6_1 : Int) (x17_1 : Int), v5 = .int .i64 x5_1 ∧ v6 = .int .i64 x6_1 ∧ v17 = .int .i64 x17_1 ∧ Aside0 (impl_limitedPlanOf.l0 kq l5 a6 x4_1 x5_1 x6_1 (l0_0.length : Int) x17_1 l0_0 l0_1 l0_2 l0_3 = some (r1, r2)) ∧ Aside0 (kq ≤ k) ∧ Aside0 (Kd.R (Kd.int .i64) 3 w' w0.heap.size (fun _ => True) v4 x4_1) ∧ Aside0 (w'.heap[gl]? = some (.cells #[.slice A0_0 l0_0.length c0_0, .slice A0_1 l0_1.length c0_1, .slice A0_2 l0_2.length c0_2, .slice A0_3 l0_3.length c0_3, .slice A5 l5.length c5, .bool a6, .map (some gm)] 55 (0, 0))) ∧ Aside0 (Memo Try.prog 68 3 w' gm (LimG l0_0 l0_1 l0_2 l0_3 l5 a6)) ∧ Aside0 (Below w0.heap.size w0 w'))
 case atStart => exact ⟨[], (0), (0), (0), (by first | rfl | (simp; done) | (simp [*]; done)), (by first | rfl | (simp; done) | (simp [*]; done)), (by first | rfl | (simp; done) | (simp [*]; done)), H', ⟨Nat.le_refl _⟩, HO, HL, HM, HB⟩
 case round =>
  clear H' HO HL HM HB
  obtain ⟨x4_1, x5_1, x6_1, x17_1, rfl, rfl, rfl, HA, HK1, HO, HL, HM, HB⟩ := hrel
  cases gk with
  | zero => exact absurd HA.out (by simp [impl_limitedPlanOf.l0])
  | succ k1 =>
   have H := HA.out
   clear HA
   simp only [impl_limitedPlanOf.l0] at H
   by_cases c8 : x17_1 < (l0_0.length : Int)
   ·
    rw [if_pos c8] at H
    have c8b0 : decide (x17_1 < (l0_0.length : Int)) = true := decide_eq_true c8
    clear c8
    obtain ⟨t226, A90, H⟩ := Option.bind_eq_some_iff.mp H
    have A9 := am_ A90
    clear A90
    have H' := am_ H
    clear H
    go_wp2_with (first | ((with_reducible refine gc_ (f := 33) rfl ?_); refine goesL_ (some 24) rfl rfl Try.func33 (by kernel_rfl) rfl #[.pointer (some ⟨gl, 0, none⟩), .int .i64 x17_1, .int .i64 x5_1, .int .i64 x6_1] rfl (by (try simp only [List.map_toArray, List.map_cons, List.map_nil]); first | done | rfl) ?_; refine ((limited_calls gl gm _ _ l0_0 _ _ l0_1 _ _ l0_2 _ _ l0_3 _ _ l5 a6 w0 HGM.out HR0_0.out HC0_0.out HR0_1.out HC0_1.out HR0_2.out HC0_2.out HR0_3.out HC0_3.out HR5.out HC5.out k1).1 x17_1 x5_1 x6_1 t226 _ HB.out HL.out HM.out A9.out).mono ?_; rintro e w6 ⟨rfl, hg_, hm_⟩; refine ⟨_, rfl, ?_⟩; have n0_ := am_ (blk_grown HL.out hg_ (fun e => memo_ne HM.out HL.out (Option.some.inj e))); obtain ⟨es_, ck_, hmm_⟩ := memo_map HM.out; have n1_ := am_ (keepM HO.out hmm_ hg_); have n2_ := am_ (HB.out.grown hg_ HB.out.size (fun j e => by cases e; exact HGM.out)); have n3_ := am_ hm_; clear HL HM HO HB hmm_ es_ ck_; have HL := n0_; have HO := n1_; have HB := n2_; have HM := n3_; clear n0_ n1_ n2_ n3_ hg_ hm_))
    go_loopg [8] k1 (fun kq v8 w' => ∃ (x8_2 : Int), v8 = .int .i64 x8_2 ∧ Aside0 (impl_limitedPlanOf.l1 kq l5 a6 x4_1 x5_1 x6_1 x17_1 x8_2 t226 (l0_0.length : Int) x17_1 l0_0 l0_1 l0_2 l0_3 = some (r1, r2)) ∧ Aside0 (kq ≤ k1) ∧ Aside0 (Kd.R (Kd.int .i64) 3 w' w0.heap.size (fun _ => True) u4 x4_1) ∧ Aside0 (w'.heap[gl]? = some (.cells #[.slice A0_0 l0_0.length c0_0, .slice A0_1 l0_1.length c0_1, .slice A0_2 l0_2.length c0_2, .slice A0_3 l0_3.length c0_3, .slice A5 l5.length c5, .bool a6, .map (some gm)] 55 (0, 0))) ∧ Aside0 (Memo Try.prog 68 3 w' gm (LimG l0_0 l0_1 l0_2 l0_3 l5 a6)) ∧ Aside0 (Below w0.heap.size w0 w'))
    case atStart => exact ⟨(0), (by first | rfl | (simp; done) | (simp [*]; done)), H', ⟨Nat.le_refl _⟩, HO, HL, HM, HB⟩
    case round =>
     clear H' HO HL HM HB
     obtain ⟨x8_2, rfl, HA, HK2, HO, HL, HM, HB⟩ := hrel
     cases gk with
     | zero => exact absurd HA.out (by simp [impl_limitedPlanOf.l1])
     | succ k2 =>
      have H := HA.out
      clear HA
      simp only [impl_limitedPlanOf.l1] at H
      obtain ⟨t227, A120, H⟩ := Option.bind_eq_some_iff.mp H
      have A12 := am_ A120
      clear A120
      by_cases c13 : t227 = t226
      ·
       rw [if_pos c13] at H
       have c13b0 : (t227 == t226) = true := beq_iff_eq.mpr c13
       have c13b1 : (t227 != t226) = false := bne_eq_false_iff_eq.mpr c13
       clear c13
       by_cases c14 : x4_1.length < 17592186044416
       ·
        rw [if_pos c14] at H
        have LMc14 := am_ c14
        clear c14
        obtain ⟨y228, hy228⟩ : ∃ y_ : List Int, y_ = (x4_1 ++ [x8_2]) := ⟨_, rfl⟩
        rw [← hy228] at H
        have Ny228 := am_ hy228
        clear hy228
        obtain ⟨⟨t231, t232, t233⟩, A150, H⟩ := Option.bind_eq_some_iff.mp H
        have A15 := am_ A150
        clear A150
        have H' := am_ H
        clear H
        go_wp2_with (first | ((with_reducible refine gc_ (f := 34) rfl ?_); refine goesL_ (some 30) rfl rfl Try.func34 (by kernel_rfl) rfl #[.pointer (some ⟨gl, 0, none⟩), .int .i64 x17_1, .int .i64 x5_1, .int .i64 x6_1, .int .i64 x8_2] rfl (by (try simp only [List.map_toArray, List.map_cons, List.map_nil]); first | done | rfl) ?_; refine ((limited_calls gl gm _ _ l0_0 _ _ l0_1 _ _ l0_2 _ _ l0_3 _ _ l5 a6 w0 HGM.out HR0_0.out HC0_0.out HR0_1.out HC0_1.out HR0_2.out HC0_2.out HR0_3.out HC0_3.out HR5.out HC5.out k2).2 x17_1 x5_1 x6_1 x8_2 t227 _ HB.out HL.out HM.out A12.out).mono ?_; rintro e w7 ⟨rfl, hg_, hm_⟩; refine ⟨_, rfl, ?_⟩; have n0_ := am_ (blk_grown HL.out hg_ (fun e => memo_ne HM.out HL.out (Option.some.inj e))); obtain ⟨es_, ck_, hmm_⟩ := memo_map HM.out; have n1_ := am_ (keepM HO.out hmm_ hg_); have n2_ := am_ (HB.out.grown hg_ HB.out.size (fun j e => by cases e; exact HGM.out)); have n3_ := am_ hm_; clear HL HM HO HB hmm_ es_ ck_; have HL := n0_; have HO := n1_; have HB := n2_; have HM := n3_; clear n0_ n1_ n2_ n3_ hg_ hm_) | ((with_reducible refine gate_builtin (b := .append) (xs := #[.tmp 35, .tmp 37]) rfl ?_); at_builtin; refine Kd.R_append (Kd.int .i64) (w0 := w0) w0.heap.size rfl (.tmp 35) (.tmp 37) 22 3 (.int .i64 0) 8 rfl Try.underlying22 info3 rfl (by decide) (by omega) u4 x4_1 x8_2 [.int .i64 x8_2] (fun _ => True) (fun _ => False) rfl rfl ?aP (fun _ hk => hk.elim) ?aF ?aO ?aB ?aS ?aL ?_; (case aP => exact rfl); (case aB => exact HB.out); (case aF => exact (fun _ _ => trivial)); (case aO => exact HO.out); (case aS => exact HB.out.size); (case aL => have := LMc14.out; omega); intro v229 w18 ho hb hg hat; rw [← Ny228.out] at ho; obtain ⟨es_, ck_, hmm_⟩ := memo_map HM.out; have n0_ := am_ (blk_grown HL.out hg (Kd.R_ne HO.out HL.out (by decide))); have n1_ := am_ (memo_grown HM.out hg (fun e => own_map HO.out hmm_ e.symm)); have n2_ := am_ hb; have n3_ := am_ ho; clear HL HM HB HO hmm_ es_ ck_; have HL := n0_; have HM := n1_; have HB := n2_; have HO2 := n3_; clear n0_ n1_ n2_ n3_ ho hb hg hat) | ((with_reducible refine gc_ (f := 35) rfl ?_); refine goesL_ (some 45) rfl rfl Try.func35 (by kernel_rfl) rfl #[.pointer (some ⟨gl, 0, none⟩), .int .i64 x17_1, .int .i64 x5_1, .int .i64 x6_1, .int .i64 x8_2] rfl (by (try simp only [List.map_toArray, List.map_cons, List.map_nil]); first | done | rfl) ?_; refine (impl_limitedAfter.calls k2 _ _ l0_0 _ _ l0_1 _ _ l0_2 _ _ l0_3 x17_1 x5_1 x6_1 x8_2 _ _ l5 a6 _ _ _ gl gm _ HL.out (cb_ HR0_0.out HB.out) HC0_0.out (cb_ HR0_1.out HB.out) HC0_1.out (cb_ HR0_2.out HB.out) HC0_2.out (cb_ HR0_3.out HB.out) HC0_3.out (cb_ HR5.out HB.out) HC5.out A15.out).mono ?_; rintro e w20 ⟨rfl, hb1⟩; refine ⟨_, rfl, ?_⟩; have n0_ := am_ (kb_ HL.out hb1); have n1_ := am_ (memo_below HM.out hb1); have n2_ := am_ (bp_ HB.out hb1); have n3_ := am_ (Kd.R_below HO2.out hb1); clear HL HM HB HO2; have HL := n0_; have HM := n1_; have HB := n2_; have HO2 := n3_; clear n0_ n1_ n2_ n3_ hb1))
        go_roundg k2
        case measure => have := HK1.out; have := HK2.out; omega
        case rel => exact ⟨(y228), (t231), (t232), (wrap64 (x17_1 + 1)), (by first | rfl | (simp; done) | (simp [*]; done)), (by first | rfl | (simp; done) | (simp [*]; done)), (by first | rfl | (simp; done) | (simp [*]; done)), H', ⟨by have := HK1.out; have := HK2.out; omega⟩, HO2, HL, HM, HB⟩
       ·
        rw [if_neg c14] at H
        exact absurd H (by simp)
      ·
       rw [if_neg c13] at H
       have c13b0 : (t227 == t226) = false := beq_eq_false_iff_ne.mpr c13
       have c13b1 : (t227 != t226) = true := bne_iff_ne.mpr c13
       have H' := am_ H
       clear H
       go_wp2_with (first | ((with_reducible refine gc_ (f := 34) rfl ?_); refine goesL_ (some 30) rfl rfl Try.func34 (by kernel_rfl) rfl #[.pointer (some ⟨gl, 0, none⟩), .int .i64 x17_1, .int .i64 x5_1, .int .i64 x6_1, .int .i64 x8_2] rfl (by (try simp only [List.map_toArray, List.map_cons, List.map_nil]); first | done | rfl) ?_; refine ((limited_calls gl gm _ _ l0_0 _ _ l0_1 _ _ l0_2 _ _ l0_3 _ _ l5 a6 w0 HGM.out HR0_0.out HC0_0.out HR0_1.out HC0_1.out HR0_2.out HC0_2.out HR0_3.out HC0_3.out HR5.out HC5.out k2).2 x17_1 x5_1 x6_1 x8_2 t227 _ HB.out HL.out HM.out A12.out).mono ?_; rintro e w7 ⟨rfl, hg_, hm_⟩; refine ⟨_, rfl, ?_⟩; have n0_ := am_ (blk_grown HL.out hg_ (fun e => memo_ne HM.out HL.out (Option.some.inj e))); obtain ⟨es_, ck_, hmm_⟩ := memo_map HM.out; have n1_ := am_ (keepM HO.out hmm_ hg_); have n2_ := am_ (HB.out.grown hg_ HB.out.size (fun j e => by cases e; exact HGM.out)); have n3_ := am_ hm_; clear HL HM HO HB hmm_ es_ ck_; have HL := n0_; have HO := n1_; have HB := n2_; have HM := n3_; clear n0_ n1_ n2_ n3_ hg_ hm_))
       go_roundg k2
       case measure => have := HK1.out; have := HK2.out; omega
       case rel => exact ⟨(wrap64 (x8_2 + 1)), (by first | rfl | (simp; done) | (simp [*]; done)), H', ⟨by have := HK1.out; have := HK2.out; omega⟩, HO, HL, HM, HB⟩
   ·
    rw [if_neg c8] at H
    have c8b0 : decide (x17_1 < (l0_0.length : Int)) = false := decide_eq_false c8
    clear c8
    obtain ⟨t225, A230, H⟩ := Option.bind_eq_some_iff.mp H
    have A23 := am_ A230
    clear A230
    simp only [Option.some.injEq, Prod.mk.injEq] at H
    obtain ⟨rfl, rfl⟩ := H
    go_wp2_with (first | ((with_reducible refine gc_ (f := 33) rfl ?_); refine goesL_ (some 52) rfl rfl Try.func33 (by kernel_rfl) rfl #[.pointer (some ⟨gl, 0, none⟩), .int .i64 0, .int .i64 0, .int .i64 0] rfl (by (try simp only [List.map_toArray, List.map_cons, List.map_nil]); first | done | rfl) ?_; refine ((limited_calls gl gm _ _ l0_0 _ _ l0_1 _ _ l0_2 _ _ l0_3 _ _ l5 a6 w0 HGM.out HR0_0.out HC0_0.out HR0_1.out HC0_1.out HR0_2.out HC0_2.out HR0_3.out HC0_3.out HR5.out HC5.out k1).1 0 0 0 t225 _ HB.out HL.out HM.out A23.out).mono ?_; rintro e w8 ⟨rfl, hg_, hm_⟩; refine ⟨_, rfl, ?_⟩; have n0_ := am_ (blk_grown HL.out hg_ (fun e => memo_ne HM.out HL.out (Option.some.inj e))); obtain ⟨es_, ck_, hmm_⟩ := memo_map HM.out; have n1_ := am_ (keepM HO.out hmm_ hg_); have n2_ := am_ (HB.out.grown hg_ HB.out.size (fun j e => by cases e; exact HGM.out)); have n3_ := am_ hm_; clear HL HM HO HB hmm_ es_ ck_; have HL := n0_; have HO := n1_; have HB := n2_; have HM := n3_; clear n0_ n1_ n2_ n3_ hg_ hm_))
    go_ret2
    exact ⟨_, rfl, HO.out, HB.out⟩
/-! ### impl_limitedPlan: function 21 -/
def impl_limitedPlan.f (k : Nat) (l0_0 : List Int) (l0_1 : List Int) (l0_2 : List Int) (l0_3 : List Int) (l1 : List Int) (a2 : Bool) : Option (List Int × Int × Bool) := (impl_CanMeet.f k l0_0 l0_1 l0_2 l0_3 l1).bind fun bt276 => (if bt276.2 = true then (if bt276.1 = true then ((impl_limitedPlanOf.f k l0_0 l0_1 l0_2 l0_3 l1 a2).bind fun bt278 => (some (bt278.1, bt278.2, true))) else (some (([] : List Int), 0, false))) else (some (([] : List Int), 0, false)))
theorem impl_limitedPlan.mono : ∀ a0 a1 a2 a3 a4 a5 k, LeO (impl_limitedPlan.f k a0 a1 a2 a3 a4 a5) (impl_limitedPlan.f (k + 1) a0 a1 a2 a3 a4 a5) := by
 intro a0 a1 a2 a3 a4 a5 k
 unfold impl_limitedPlan.f
 repeat' first
   | (with_reducible exact impl_CanMeet.mono _ _ _ _ _ _)
   | (with_reducible exact impl_limitedPlanOf.mono _ _ _ _ _ _ _)
   | (with_reducible exact LeO.refl _)
   | (with_reducible exact LeO.none _)
   | (with_reducible refine LeO.ite ?_ ?_)
   | (with_reducible refine LeO.bind ?_ (fun _ => ?_))
   | exact impl_CanMeet.mono _ _ _ _ _ _
   | exact impl_limitedPlanOf.mono _ _ _ _ _ _ _
   | exact LeO.none _
   | refine LeO.ite ?_ ?_
   | refine LeO.bind ?_ (fun _ => ?_)
set_option maxHeartbeats 8000000 in
set_option maxRecDepth 100000 in
theorem impl_limitedPlan.calls (k : Nat) (A0_0 : Option Addr) (c0_0 : Nat) (l0_0 : List Int) (A0_1 : Option Addr) (c0_1 : Nat) (l0_1 : List Int) (A0_2 : Option Addr) (c0_2 : Nat) (l0_2 : List Int) (A0_3 : Option Addr) (c0_3 : Nat) (l0_3 : List Int) (A1 : Option Addr) (c1 : Nat) (l1 : List Int) (a2 : Bool) (r1 : List Int) (r2 : Int) (r3 : Bool) (w : World) (hr0_0 : Kd.C (Kd.int .i64) w A0_0 l0_0.length l0_0) (hc0_0 : l0_0.length ≤ c0_0) (hr0_1 : Kd.C (Kd.int .i64) w A0_1 l0_1.length l0_1) (hc0_1 : l0_1.length ≤ c0_1) (hr0_2 : Kd.C (Kd.int .i64) w A0_2 l0_2.length l0_2) (hc0_2 : l0_2.length ≤ c0_2) (hr0_3 : Kd.C (Kd.int .i64) w A0_3 l0_3.length l0_3) (hc0_3 : l0_3.length ≤ c0_3) (hr1 : Kd.C (Kd.int .i64) w A1 l1.length l1) (hc1 : l1.length ≤ c1) (h : impl_limitedPlan.f k l0_0 l0_1 l0_2 l0_3 l1 a2 = some (r1, r2, r3)) :
  Calls Try.prog 21 #[.agg #[.slice A0_0 l0_0.length c0_0, .slice A0_1 l0_1.length c0_1, .slice A0_2 l0_2.length c0_2, .slice A0_3 l0_3.length c0_3], .slice A1 l1.length c1, .bool a2] w fun e w' => ∃ v0_ : Value, e = .returned (.tuple #[v0_, .int .i64 r2, .bool r3]) ∧ Kd.R (Kd.int .i64) 3 w' w.heap.size (fun _ => True) v0_ r1 ∧ Below w.heap.size w w' := by
 have hu28 := Try.underlying28
 have HR0_0 := am_ hr0_0
 have HC0_0 := am_ hc0_0
 clear hr0_0 hc0_0
 have HR0_1 := am_ hr0_1
 have HC0_1 := am_ hc0_1
 clear hr0_1 hc0_1
 have HR0_2 := am_ hr0_2
 have HC0_2 := am_ hc0_2
 clear hr0_2 hc0_2
 have HR0_3 := am_ hr0_3
 have HC0_3 := am_ hc0_3
 clear hr0_3 hc0_3
 have HR1 := am_ hr1
 have HC1 := am_ hc1
 clear hr1 hc1
 have HB := am_ (Below.refl w.heap.size w)
 have H : ((impl_CanMeet.f k l0_0 l0_1 l0_2 l0_3 l1).bind fun bt276 => (if bt276.2 = true then (if bt276.1 = true then ((impl_limitedPlanOf.f k l0_0 l0_1 l0_2 l0_3 l1 a2).bind fun bt278 => (some (bt278.1, bt278.2, true))) else (some (([] : List Int), 0, false))) else (some (([] : List Int), 0, false)))) = some (r1, r2, r3) := h
 clear h
 replace H := Option.bind_eq_some_iff.mp H
 obtain ⟨⟨t276, t277⟩, A40, H⟩ := H
 replace H : (if t277 = true then (if t276 = true then ((impl_limitedPlanOf.f k l0_0 l0_1 l0_2 l0_3 l1 a2).bind fun bt278 => (some (bt278.1, bt278.2, true))) else (some (([] : List Int), 0, false))) else (some (([] : List Int), 0, false))) = some (r1, r2, r3) := H
 have A4 := am_ A40
 clear A40
 by_cases c5 : t277 = true
 ·
  subst c5
  have H1 : (if t276 = true then ((impl_limitedPlanOf.f k l0_0 l0_1 l0_2 l0_3 l1 a2).bind fun bt278 => (some (bt278.1, bt278.2, true))) else (some (([] : List Int), 0, false))) = some (r1, r2, r3) := by rw [if_pos rfl] at H; exact H
  clear H
  have H := H1
  clear H1
  by_cases c6 : t276 = true
  ·
   subst c6
   have H1 : ((impl_limitedPlanOf.f k l0_0 l0_1 l0_2 l0_3 l1 a2).bind fun bt278 => (some (bt278.1, bt278.2, true))) = some (r1, r2, r3) := by rw [if_pos rfl] at H; exact H
   clear H
   have H := H1
   clear H1
   replace H := Option.bind_eq_some_iff.mp H
   obtain ⟨⟨t278, t281⟩, A70, H⟩ := H
   replace H : (some (t278, t281, true)) = some (r1, r2, r3) := H
   have A7 := am_ A70
   clear A70
   simp only [Option.some.injEq, Prod.mk.injEq] at H
   obtain ⟨rfl, rfl, rfl⟩ := H
   go_enter Try.func21, Try.ntmps21
   go_wp2_with (first | ((with_reducible refine gate_dst (N := 3) rfl ?_); refine box_event ?hg (N := 3) ?hd (cs := #[.slice A0_0 l0_0.length c0_0, .slice A0_1 l0_1.length c0_1, .slice A0_2 l0_2.length c0_2, .slice A0_3 l0_3.length c0_3]) (t := 28) ?hr ?_; (case hd => rfl); (case hg => rfl); (case hr => first | (go_simp; done) | (go_simp; rfl)); intro gb275 hg w8 hbox hb; have n0_ := am_ (bp_ (by repeat (first | (with_reducible first | exact HB.out | apply ba_ | apply pw_below_drewN | apply bd_) | exact HB.out)) hb); have n1_ := am_ (hbox); have n2_ := am_ ((by rw [hg]; exact (bz_ (by repeat (first | (with_reducible first | exact HB.out | apply ba_ | apply pw_below_drewN | apply bd_) | exact HB.out))) : w.heap.size ≤ gb275)); have n3_ := am_ ((by rw [hg]; exact (bz_ (by repeat (first | (with_reducible first | exact HB.out | apply ba_ | apply pw_below_drewN | apply bd_) | exact HB.out))) : w.heap.size ≤ gb275)); clear HB; have HB := n0_; have BK275 := n1_; have GW275 := n2_; have GE275 := n3_; clear n0_ n1_ n2_ n3_; clear hb hbox hg; have hcz9_0 : w8.cell? ⟨gb275, 0, none⟩ = some (.slice A0_0 l0_0.length c0_0) := (kc_ BK275.out 0).trans rfl; have hcz9_1 : w8.cell? ⟨gb275, 1, none⟩ = some (.slice A0_1 l0_1.length c0_1) := (kc_ BK275.out 1).trans rfl; have hcz9_2 : w8.cell? ⟨gb275, 2, none⟩ = some (.slice A0_2 l0_2.length c0_2) := (kc_ BK275.out 2).trans rfl; have hcz9_3 : w8.cell? ⟨gb275, 3, none⟩ = some (.slice A0_3 l0_3.length c0_3) := (kc_ BK275.out 3).trans rfl; have hfz9_0 := kf_ BK275.out 0; have hfz9_1 := kf_ BK275.out 1; have hfz9_2 := kf_ BK275.out 2; have hfz9_3 := kf_ BK275.out 3) | ((with_reducible refine gc_ (f := 25) rfl ?_); refine goesL_ (some 17) rfl rfl Try.func25 (by kernel_rfl) rfl #[.agg #[.slice A0_0 l0_0.length c0_0, .slice A0_1 l0_1.length c0_1, .slice A0_2 l0_2.length c0_2, .slice A0_3 l0_3.length c0_3], .slice A1 l1.length c1] rfl (by (try simp only [List.map_toArray, List.map_cons, List.map_nil]); first | done | rfl | (simp only [List.length_drop, List.length_take]; rfl)) ?_; (with_reducible refine (impl_CanMeet.calls k _ _ l0_0 _ _ l0_1 _ _ l0_2 _ _ l0_3 _ _ l1 true true _ ?side1 ?side2 ?side3 ?side4 ?side5 ?side6 ?side7 ?side8 ?side9 ?side10 A4.out).mono ?_); (case side1 => repeat (first | exact (cb_ HR0_0.out HB.out) | (with_reducible refine ca_ ?_ _) | (with_reducible refine cn_ ?_ _) | (with_reducible refine cd_ ?_))); (case side2 => exact HC0_0.out); (case side3 => repeat (first | exact (cb_ HR0_1.out HB.out) | (with_reducible refine ca_ ?_ _) | (with_reducible refine cn_ ?_ _) | (with_reducible refine cd_ ?_))); (case side4 => exact HC0_1.out); (case side5 => repeat (first | exact (cb_ HR0_2.out HB.out) | (with_reducible refine ca_ ?_ _) | (with_reducible refine cn_ ?_ _) | (with_reducible refine cd_ ?_))); (case side6 => exact HC0_2.out); (case side7 => repeat (first | exact (cb_ HR0_3.out HB.out) | (with_reducible refine ca_ ?_ _) | (with_reducible refine cn_ ?_ _) | (with_reducible refine cd_ ?_))); (case side8 => exact HC0_3.out); (case side9 => repeat (first | exact (cb_ HR1.out HB.out) | (with_reducible refine ca_ ?_ _) | (with_reducible refine cn_ ?_ _) | (with_reducible refine cd_ ?_))); (case side10 => exact HC1.out); rintro e w10 ⟨rfl, hb⟩; refine ⟨_, rfl, ?_⟩; have n0_ := am_ (kb_ (g := gb275) (o := .cells #[.slice A0_0 l0_0.length c0_0, .slice A0_1 l0_1.length c0_1, .slice A0_2 l0_2.length c0_2, .slice A0_3 l0_3.length c0_3] 28 (0, 0)) (by (with_reducible repeat (first | refine kn_ ?_ _ | refine kd_ ?_ | refine ka_ ?_ _)); exact BK275.out) hb); have n1_ := am_ (bp_ (by repeat (first | (with_reducible first | exact HB.out | apply ba_ | apply pw_below_drewN | apply bd_ | refine bs_ ?_ GE275.out) | exact HB.out)) hb); clear BK275; clear HB; have BK275 := n0_; have HB := n1_; clear n0_ n1_; (try clear hb); (try clear hb2); (try clear hk); (try clear hi); have hcz11_0 : w10.cell? ⟨gb275, 0, none⟩ = some (.slice A0_0 l0_0.length c0_0) := (kc_ BK275.out 0).trans rfl; have hcz11_1 : w10.cell? ⟨gb275, 1, none⟩ = some (.slice A0_1 l0_1.length c0_1) := (kc_ BK275.out 1).trans rfl; have hcz11_2 : w10.cell? ⟨gb275, 2, none⟩ = some (.slice A0_2 l0_2.length c0_2) := (kc_ BK275.out 2).trans rfl; have hcz11_3 : w10.cell? ⟨gb275, 3, none⟩ = some (.slice A0_3 l0_3.length c0_3) := (kc_ BK275.out 3).trans rfl; have hfz11_0 := kf_ BK275.out 0; have hfz11_1 := kf_ BK275.out 1; have hfz11_2 := kf_ BK275.out 2; have hfz11_3 := kf_ BK275.out 3) | ((with_reducible refine gate_dst (N := 29) rfl ?_); refine map_event ?hg (N := 29) ?hd ?hr ?_; (case hd => rfl); (case hg => rfl); (case hr => first | rfl | (go_simp; done) | (go_simp; rfl)); intro gm hgm wm hmm hbm; have HGM := am_ (by rw [hgm]; exact ((by repeat (first | (with_reducible first | exact HB.out | apply ba_ | apply pw_below_drewN | apply bd_ | refine bs_ ?_ GE275.out) | exact HB.out)) : Below w.heap.size w _).size : w.heap.size ≤ gm); have n2_ := am_ (bp_ (by repeat (first | (with_reducible first | exact HB.out | apply ba_ | apply pw_below_drewN | apply bd_ | refine bs_ ?_ GE275.out) | exact HB.out)) hbm); clear HB; have HB := n2_; clear n2_ hgm hbm) | ((with_reducible refine gate_dst (N := 31) rfl ?_); refine box_event ?hg (N := 31) ?hd (cs := #[.slice A0_0 l0_0.length c0_0, .slice A0_1 l0_1.length c0_1, .slice A0_2 l0_2.length c0_2, .slice A0_3 l0_3.length c0_3, .slice A1 l1.length c1, .bool a2, .map (some gm)]) (t := 55) ?hr ?_; (case hd => rfl); (case hg => rfl); (case hr => first | (go_simp; done) | (go_simp; rfl)); intro gl hgl wl hboxl hbl; have HL := am_ hboxl; have HM := am_ (memo_below (hmm 68 3 (LimG l0_0 l0_1 l0_2 l0_3 l1 a2)) hbl); have n2_ := am_ (bp_ (by repeat (first | (with_reducible first | exact HB.out | apply ba_ | apply pw_below_drewN | apply bd_ | refine bs_ ?_ GE275.out) | exact HB.out)) hbl); clear HB; have HB := n2_; clear n2_ hgl hboxl hbl hmm) | ((with_reducible refine gc_ (f := 26) rfl ?_); refine goesL_ (some 34) rfl rfl Try.func26 (by kernel_rfl) rfl #[.pointer (some ⟨gl, 0, none⟩)] rfl (by (try simp only [List.map_toArray, List.map_cons, List.map_nil]); first | done | rfl) ?_; refine (impl_limitedPlanOf.calls k gl gm _ _ l0_0 _ _ l0_1 _ _ l0_2 _ _ l0_3 _ _ l1 a2 w _ HGM.out HR0_0.out HC0_0.out HR0_1.out HC0_1.out HR0_2.out HC0_2.out HR0_3.out HC0_3.out HR1.out HC1.out HB.out HL.out HM.out _ _ A7.out).mono ?_; rintro e w9 ⟨v238, rfl, ho0, hb⟩; refine ⟨_, rfl, ?_⟩; have HO280 := am_ ho0; have n2_ := am_ hb; clear HB; have HB := n2_; clear n2_ ho0 hb))
   go_ret3
   exact ⟨_, by first | rfl | (simp [errW_none, errW_some] <;> rfl) | (simp [*, errW_none, errW_some] <;> rfl), by (with_reducible repeat (first | apply Kd.R_alloc | apply Kd.R_drewN | apply Kd.R_drew)); exact HO280.out, by repeat (first | (with_reducible first | exact HB.out | apply ba_ | apply pw_below_drewN | apply bd_ | refine bs_ ?_ GE275.out) | exact HB.out)⟩
  ·
   replace c6 := Bool.eq_false_iff.mpr c6
   subst c6
   have H1 : (some (([] : List Int), 0, false)) = some (r1, r2, r3) := by rw [if_neg (show ¬ (false = true) by decide)] at H; exact H
   clear H
   have H := H1
   clear H1
   simp only [Option.some.injEq, Prod.mk.injEq] at H
   obtain ⟨rfl, rfl, rfl⟩ := H
   go_enter Try.func21, Try.ntmps21
   go_wp2_with (first | ((with_reducible refine gate_dst (N := 3) rfl ?_); refine box_event ?hg (N := 3) ?hd (cs := #[.slice A0_0 l0_0.length c0_0, .slice A0_1 l0_1.length c0_1, .slice A0_2 l0_2.length c0_2, .slice A0_3 l0_3.length c0_3]) (t := 28) ?hr ?_; (case hd => rfl); (case hg => rfl); (case hr => first | (go_simp; done) | (go_simp; rfl)); intro gb275 hg w13 hbox hb; have n0_ := am_ (bp_ (by repeat (first | (with_reducible first | exact HB.out | apply ba_ | apply pw_below_drewN | apply bd_) | exact HB.out)) hb); have n1_ := am_ (hbox); have n2_ := am_ ((by rw [hg]; exact (bz_ (by repeat (first | (with_reducible first | exact HB.out | apply ba_ | apply pw_below_drewN | apply bd_) | exact HB.out))) : w.heap.size ≤ gb275)); have n3_ := am_ ((by rw [hg]; exact (bz_ (by repeat (first | (with_reducible first | exact HB.out | apply ba_ | apply pw_below_drewN | apply bd_) | exact HB.out))) : w.heap.size ≤ gb275)); clear HB; have HB := n0_; have BK275 := n1_; have GW275 := n2_; have GE275 := n3_; clear n0_ n1_ n2_ n3_; clear hb hbox hg; have hcz14_0 : w13.cell? ⟨gb275, 0, none⟩ = some (.slice A0_0 l0_0.length c0_0) := (kc_ BK275.out 0).trans rfl; have hcz14_1 : w13.cell? ⟨gb275, 1, none⟩ = some (.slice A0_1 l0_1.length c0_1) := (kc_ BK275.out 1).trans rfl; have hcz14_2 : w13.cell? ⟨gb275, 2, none⟩ = some (.slice A0_2 l0_2.length c0_2) := (kc_ BK275.out 2).trans rfl; have hcz14_3 : w13.cell? ⟨gb275, 3, none⟩ = some (.slice A0_3 l0_3.length c0_3) := (kc_ BK275.out 3).trans rfl; have hfz14_0 := kf_ BK275.out 0; have hfz14_1 := kf_ BK275.out 1; have hfz14_2 := kf_ BK275.out 2; have hfz14_3 := kf_ BK275.out 3) | ((with_reducible refine gc_ (f := 25) rfl ?_); refine goesL_ (some 17) rfl rfl Try.func25 (by kernel_rfl) rfl #[.agg #[.slice A0_0 l0_0.length c0_0, .slice A0_1 l0_1.length c0_1, .slice A0_2 l0_2.length c0_2, .slice A0_3 l0_3.length c0_3], .slice A1 l1.length c1] rfl (by (try simp only [List.map_toArray, List.map_cons, List.map_nil]); first | done | rfl | (simp only [List.length_drop, List.length_take]; rfl)) ?_; (with_reducible refine (impl_CanMeet.calls k _ _ l0_0 _ _ l0_1 _ _ l0_2 _ _ l0_3 _ _ l1 false true _ ?side1 ?side2 ?side3 ?side4 ?side5 ?side6 ?side7 ?side8 ?side9 ?side10 A4.out).mono ?_); (case side1 => repeat (first | exact (cb_ HR0_0.out HB.out) | (with_reducible refine ca_ ?_ _) | (with_reducible refine cn_ ?_ _) | (with_reducible refine cd_ ?_))); (case side2 => exact HC0_0.out); (case side3 => repeat (first | exact (cb_ HR0_1.out HB.out) | (with_reducible refine ca_ ?_ _) | (with_reducible refine cn_ ?_ _) | (with_reducible refine cd_ ?_))); (case side4 => exact HC0_1.out); (case side5 => repeat (first | exact (cb_ HR0_2.out HB.out) | (with_reducible refine ca_ ?_ _) | (with_reducible refine cn_ ?_ _) | (with_reducible refine cd_ ?_))); (case side6 => exact HC0_2.out); (case side7 => repeat (first | exact (cb_ HR0_3.out HB.out) | (with_reducible refine ca_ ?_ _) | (with_reducible refine cn_ ?_ _) | (with_reducible refine cd_ ?_))); (case side8 => exact HC0_3.out); (case side9 => repeat (first | exact (cb_ HR1.out HB.out) | (with_reducible refine ca_ ?_ _) | (with_reducible refine cn_ ?_ _) | (with_reducible refine cd_ ?_))); (case side10 => exact HC1.out); rintro e w15 ⟨rfl, hb⟩; refine ⟨_, rfl, ?_⟩; have n0_ := am_ (kb_ (g := gb275) (o := .cells #[.slice A0_0 l0_0.length c0_0, .slice A0_1 l0_1.length c0_1, .slice A0_2 l0_2.length c0_2, .slice A0_3 l0_3.length c0_3] 28 (0, 0)) (by (with_reducible repeat (first | refine kn_ ?_ _ | refine kd_ ?_ | refine ka_ ?_ _)); exact BK275.out) hb); have n1_ := am_ (bp_ (by repeat (first | (with_reducible first | exact HB.out | apply ba_ | apply pw_below_drewN | apply bd_ | refine bs_ ?_ GE275.out) | exact HB.out)) hb); clear BK275; clear HB; have BK275 := n0_; have HB := n1_; clear n0_ n1_; (try clear hb); (try clear hb2); (try clear hk); (try clear hi)))
   go_ret3
   exact ⟨_, by first | rfl | (simp [errW_none, errW_some] <;> rfl) | (simp [*, errW_none, errW_some] <;> rfl), by first | exact Kd.R_nil _ _ _ _ _ | exact Kd.N_nil _ _ _ _ _ | exact Kd.V_nil _ _ _ _ _ | exact Kd.Q_nil _ _ _ _ _ | exact Kd.S_nil _ _ _ _ _, by repeat (first | (with_reducible first | exact HB.out | apply ba_ | apply pw_below_drewN | apply bd_ | refine bs_ ?_ GE275.out) | exact HB.out)⟩
 ·
  replace c5 := Bool.eq_false_iff.mpr c5
  subst c5
  have H1 : (some (([] : List Int), 0, false)) = some (r1, r2, r3) := by rw [if_neg (show ¬ (false = true) by decide)] at H; exact H
  clear H
  have H := H1
  clear H1
  simp only [Option.some.injEq, Prod.mk.injEq] at H
  obtain ⟨rfl, rfl, rfl⟩ := H
  go_enter Try.func21, Try.ntmps21
  go_wp2_with (first | ((with_reducible refine gate_dst (N := 3) rfl ?_); refine box_event ?hg (N := 3) ?hd (cs := #[.slice A0_0 l0_0.length c0_0, .slice A0_1 l0_1.length c0_1, .slice A0_2 l0_2.length c0_2, .slice A0_3 l0_3.length c0_3]) (t := 28) ?hr ?_; (case hd => rfl); (case hg => rfl); (case hr => first | (go_simp; done) | (go_simp; rfl)); intro gb275 hg w16 hbox hb; have n0_ := am_ (bp_ (by repeat (first | (with_reducible first | exact HB.out | apply ba_ | apply pw_below_drewN | apply bd_) | exact HB.out)) hb); have n1_ := am_ (hbox); have n2_ := am_ ((by rw [hg]; exact (bz_ (by repeat (first | (with_reducible first | exact HB.out | apply ba_ | apply pw_below_drewN | apply bd_) | exact HB.out))) : w.heap.size ≤ gb275)); have n3_ := am_ ((by rw [hg]; exact (bz_ (by repeat (first | (with_reducible first | exact HB.out | apply ba_ | apply pw_below_drewN | apply bd_) | exact HB.out))) : w.heap.size ≤ gb275)); clear HB; have HB := n0_; have BK275 := n1_; have GW275 := n2_; have GE275 := n3_; clear n0_ n1_ n2_ n3_; clear hb hbox hg; have hcz17_0 : w16.cell? ⟨gb275, 0, none⟩ = some (.slice A0_0 l0_0.length c0_0) := (kc_ BK275.out 0).trans rfl; have hcz17_1 : w16.cell? ⟨gb275, 1, none⟩ = some (.slice A0_1 l0_1.length c0_1) := (kc_ BK275.out 1).trans rfl; have hcz17_2 : w16.cell? ⟨gb275, 2, none⟩ = some (.slice A0_2 l0_2.length c0_2) := (kc_ BK275.out 2).trans rfl; have hcz17_3 : w16.cell? ⟨gb275, 3, none⟩ = some (.slice A0_3 l0_3.length c0_3) := (kc_ BK275.out 3).trans rfl; have hfz17_0 := kf_ BK275.out 0; have hfz17_1 := kf_ BK275.out 1; have hfz17_2 := kf_ BK275.out 2; have hfz17_3 := kf_ BK275.out 3) | ((with_reducible refine gc_ (f := 25) rfl ?_); refine goesL_ (some 17) rfl rfl Try.func25 (by kernel_rfl) rfl #[.agg #[.slice A0_0 l0_0.length c0_0, .slice A0_1 l0_1.length c0_1, .slice A0_2 l0_2.length c0_2, .slice A0_3 l0_3.length c0_3], .slice A1 l1.length c1] rfl (by (try simp only [List.map_toArray, List.map_cons, List.map_nil]); first | done | rfl | (simp only [List.length_drop, List.length_take]; rfl)) ?_; (with_reducible refine (impl_CanMeet.calls k _ _ l0_0 _ _ l0_1 _ _ l0_2 _ _ l0_3 _ _ l1 t276 false _ ?side1 ?side2 ?side3 ?side4 ?side5 ?side6 ?side7 ?side8 ?side9 ?side10 A4.out).mono ?_); (case side1 => repeat (first | exact (cb_ HR0_0.out HB.out) | (with_reducible refine ca_ ?_ _) | (with_reducible refine cn_ ?_ _) | (with_reducible refine cd_ ?_))); (case side2 => exact HC0_0.out); (case side3 => repeat (first | exact (cb_ HR0_1.out HB.out) | (with_reducible refine ca_ ?_ _) | (with_reducible refine cn_ ?_ _) | (with_reducible refine cd_ ?_))); (case side4 => exact HC0_1.out); (case side5 => repeat (first | exact (cb_ HR0_2.out HB.out) | (with_reducible refine ca_ ?_ _) | (with_reducible refine cn_ ?_ _) | (with_reducible refine cd_ ?_))); (case side6 => exact HC0_2.out); (case side7 => repeat (first | exact (cb_ HR0_3.out HB.out) | (with_reducible refine ca_ ?_ _) | (with_reducible refine cn_ ?_ _) | (with_reducible refine cd_ ?_))); (case side8 => exact HC0_3.out); (case side9 => repeat (first | exact (cb_ HR1.out HB.out) | (with_reducible refine ca_ ?_ _) | (with_reducible refine cn_ ?_ _) | (with_reducible refine cd_ ?_))); (case side10 => exact HC1.out); rintro e w18 ⟨rfl, hb⟩; refine ⟨_, rfl, ?_⟩; have n0_ := am_ (kb_ (g := gb275) (o := .cells #[.slice A0_0 l0_0.length c0_0, .slice A0_1 l0_1.length c0_1, .slice A0_2 l0_2.length c0_2, .slice A0_3 l0_3.length c0_3] 28 (0, 0)) (by (with_reducible repeat (first | refine kn_ ?_ _ | refine kd_ ?_ | refine ka_ ?_ _)); exact BK275.out) hb); have n1_ := am_ (bp_ (by repeat (first | (with_reducible first | exact HB.out | apply ba_ | apply pw_below_drewN | apply bd_ | refine bs_ ?_ GE275.out) | exact HB.out)) hb); clear BK275; clear HB; have BK275 := n0_; have HB := n1_; clear n0_ n1_; (try clear hb); (try clear hb2); (try clear hk); (try clear hi)))
  go_ret3
  exact ⟨_, by first | rfl | (simp [errW_none, errW_some] <;> rfl) | (simp [*, errW_none, errW_some] <;> rfl), by first | exact Kd.R_nil _ _ _ _ _ | exact Kd.N_nil _ _ _ _ _ | exact Kd.V_nil _ _ _ _ _ | exact Kd.Q_nil _ _ _ _ _ | exact Kd.S_nil _ _ _ _ _, by repeat (first | (with_reducible first | exact HB.out | apply ba_ | apply pw_below_drewN | apply bd_ | refine bs_ ?_ GE275.out) | exact HB.out)⟩

/-! ### impl_RegularPlan: function 8 -/
def impl_RegularPlan.f (k : Nat) (l0_0 : List Int) (l0_1 : List Int) (l0_2 : List Int) (l0_3 : List Int) (l1 : List Int) : Option (List Int × Bool) := (impl_limitedPlan.f k l0_0 l0_1 l0_2 l0_3 l1 true).bind fun bt283 => (some (bt283.1, bt283.2.2))
theorem impl_RegularPlan.mono : ∀ a0 a1 a2 a3 a4 k, LeO (impl_RegularPlan.f k a0 a1 a2 a3 a4) (impl_RegularPlan.f (k + 1) a0 a1 a2 a3 a4) := by
 intro a0 a1 a2 a3 a4 k
 unfold impl_RegularPlan.f
 repeat' first
   | (with_reducible exact impl_limitedPlan.mono _ _ _ _ _ _ _)
   | (with_reducible exact LeO.refl _)
   | (with_reducible exact LeO.none _)
   | (with_reducible refine LeO.ite ?_ ?_)
   | (with_reducible refine LeO.bind ?_ (fun _ => ?_))
   | exact impl_limitedPlan.mono _ _ _ _ _ _ _
   | exact LeO.none _
   | refine LeO.ite ?_ ?_
   | refine LeO.bind ?_ (fun _ => ?_)
set_option maxHeartbeats 8000000 in
set_option maxRecDepth 100000 in
theorem impl_RegularPlan.calls (k : Nat) (A0_0 : Option Addr) (c0_0 : Nat) (l0_0 : List Int) (A0_1 : Option Addr) (c0_1 : Nat) (l0_1 : List Int) (A0_2 : Option Addr) (c0_2 : Nat) (l0_2 : List Int) (A0_3 : Option Addr) (c0_3 : Nat) (l0_3 : List Int) (A1 : Option Addr) (c1 : Nat) (l1 : List Int) (r1 : List Int) (r2 : Bool) (w : World) (hr0_0 : Kd.C (Kd.int .i64) w A0_0 l0_0.length l0_0) (hc0_0 : l0_0.length ≤ c0_0) (hr0_1 : Kd.C (Kd.int .i64) w A0_1 l0_1.length l0_1) (hc0_1 : l0_1.length ≤ c0_1) (hr0_2 : Kd.C (Kd.int .i64) w A0_2 l0_2.length l0_2) (hc0_2 : l0_2.length ≤ c0_2) (hr0_3 : Kd.C (Kd.int .i64) w A0_3 l0_3.length l0_3) (hc0_3 : l0_3.length ≤ c0_3) (hr1 : Kd.C (Kd.int .i64) w A1 l1.length l1) (hc1 : l1.length ≤ c1) (h : impl_RegularPlan.f k l0_0 l0_1 l0_2 l0_3 l1 = some (r1, r2)) :
  Calls Try.prog 8 #[.agg #[.slice A0_0 l0_0.length c0_0, .slice A0_1 l0_1.length c0_1, .slice A0_2 l0_2.length c0_2, .slice A0_3 l0_3.length c0_3], .slice A1 l1.length c1] w fun e w' => ∃ v0_ : Value, e = .returned (.tuple #[v0_, .bool r2]) ∧ Kd.R (Kd.int .i64) 3 w' w.heap.size (fun _ => True) v0_ r1 ∧ Below w.heap.size w w' := by
 have hu28 := Try.underlying28
 have HR0_0 := am_ hr0_0
 have HC0_0 := am_ hc0_0
 clear hr0_0 hc0_0
 have HR0_1 := am_ hr0_1
 have HC0_1 := am_ hc0_1
 clear hr0_1 hc0_1
 have HR0_2 := am_ hr0_2
 have HC0_2 := am_ hc0_2
 clear hr0_2 hc0_2
 have HR0_3 := am_ hr0_3
 have HC0_3 := am_ hc0_3
 clear hr0_3 hc0_3
 have HR1 := am_ hr1
 have HC1 := am_ hc1
 clear hr1 hc1
 have HB := am_ (Below.refl w.heap.size w)
 have H : ((impl_limitedPlan.f k l0_0 l0_1 l0_2 l0_3 l1 true).bind fun bt283 => (some (bt283.1, bt283.2.2))) = some (r1, r2) := h
 clear h
 replace H := Option.bind_eq_some_iff.mp H
 obtain ⟨⟨t283, t286, t287⟩, A30, H⟩ := H
 replace H : (some (t283, t287)) = some (r1, r2) := H
 have A3 := am_ A30
 clear A30
 simp only [Option.some.injEq, Prod.mk.injEq] at H
 obtain ⟨rfl, rfl⟩ := H
 go_enter Try.func8, Try.ntmps8
 go_wp2_with (first | ((with_reducible refine gate_dst (N := 2) rfl ?_); refine box_event ?hg (N := 2) ?hd (cs := #[.slice A0_0 l0_0.length c0_0, .slice A0_1 l0_1.length c0_1, .slice A0_2 l0_2.length c0_2, .slice A0_3 l0_3.length c0_3]) (t := 28) ?hr ?_; (case hd => rfl); (case hg => rfl); (case hr => first | (go_simp; done) | (go_simp; rfl)); intro gb282 hg w4 hbox hb; have n0_ := am_ (bp_ (by repeat (first | (with_reducible first | exact HB.out | apply ba_ | apply pw_below_drewN | apply bd_) | exact HB.out)) hb); have n1_ := am_ (hbox); have n2_ := am_ ((by rw [hg]; exact (bz_ (by repeat (first | (with_reducible first | exact HB.out | apply ba_ | apply pw_below_drewN | apply bd_) | exact HB.out))) : w.heap.size ≤ gb282)); have n3_ := am_ ((by rw [hg]; exact (bz_ (by repeat (first | (with_reducible first | exact HB.out | apply ba_ | apply pw_below_drewN | apply bd_) | exact HB.out))) : w.heap.size ≤ gb282)); clear HB; have HB := n0_; have BK282 := n1_; have GW282 := n2_; have GE282 := n3_; clear n0_ n1_ n2_ n3_; clear hb hbox hg; have hcz5_0 : w4.cell? ⟨gb282, 0, none⟩ = some (.slice A0_0 l0_0.length c0_0) := (kc_ BK282.out 0).trans rfl; have hcz5_1 : w4.cell? ⟨gb282, 1, none⟩ = some (.slice A0_1 l0_1.length c0_1) := (kc_ BK282.out 1).trans rfl; have hcz5_2 : w4.cell? ⟨gb282, 2, none⟩ = some (.slice A0_2 l0_2.length c0_2) := (kc_ BK282.out 2).trans rfl; have hcz5_3 : w4.cell? ⟨gb282, 3, none⟩ = some (.slice A0_3 l0_3.length c0_3) := (kc_ BK282.out 3).trans rfl; have hfz5_0 := kf_ BK282.out 0; have hfz5_1 := kf_ BK282.out 1; have hfz5_2 := kf_ BK282.out 2; have hfz5_3 := kf_ BK282.out 3) | ((with_reducible refine gc_ (f := 21) rfl ?_); refine goesL_ (some 12) rfl rfl Try.func21 (by kernel_rfl) rfl #[.agg #[.slice A0_0 l0_0.length c0_0, .slice A0_1 l0_1.length c0_1, .slice A0_2 l0_2.length c0_2, .slice A0_3 l0_3.length c0_3], .slice A1 l1.length c1, .bool true] rfl (by (try simp only [List.map_toArray, List.map_cons, List.map_nil]); first | done | rfl | (simp only [List.length_drop, List.length_take]; rfl)) ?_; (with_reducible refine (impl_limitedPlan.calls k _ _ l0_0 _ _ l0_1 _ _ l0_2 _ _ l0_3 _ _ l1 true t283 t286 t287 _ ?side1 ?side2 ?side3 ?side4 ?side5 ?side6 ?side7 ?side8 ?side9 ?side10 A3.out).mono ?_); (case side1 => repeat (first | exact (cb_ HR0_0.out HB.out) | (with_reducible refine ca_ ?_ _) | (with_reducible refine cn_ ?_ _) | (with_reducible refine cd_ ?_))); (case side2 => exact HC0_0.out); (case side3 => repeat (first | exact (cb_ HR0_1.out HB.out) | (with_reducible refine ca_ ?_ _) | (with_reducible refine cn_ ?_ _) | (with_reducible refine cd_ ?_))); (case side4 => exact HC0_1.out); (case side5 => repeat (first | exact (cb_ HR0_2.out HB.out) | (with_reducible refine ca_ ?_ _) | (with_reducible refine cn_ ?_ _) | (with_reducible refine cd_ ?_))); (case side6 => exact HC0_2.out); (case side7 => repeat (first | exact (cb_ HR0_3.out HB.out) | (with_reducible refine ca_ ?_ _) | (with_reducible refine cn_ ?_ _) | (with_reducible refine cd_ ?_))); (case side8 => exact HC0_3.out); (case side9 => repeat (first | exact (cb_ HR1.out HB.out) | (with_reducible refine ca_ ?_ _) | (with_reducible refine cn_ ?_ _) | (with_reducible refine cd_ ?_))); (case side10 => exact HC1.out); rintro e w6 ⟨v284, rfl, ho0, hb⟩; refine ⟨_, rfl, ?_⟩; have n0_ := am_ (Kd.R_lower ho0 (bz_ (by repeat (first | (with_reducible first | exact HB.out | apply ba_ | apply pw_below_drewN | apply bd_ | refine bs_ ?_ GE282.out) | exact HB.out)))); have n1_ := am_ (kb_ (g := gb282) (o := .cells #[.slice A0_0 l0_0.length c0_0, .slice A0_1 l0_1.length c0_1, .slice A0_2 l0_2.length c0_2, .slice A0_3 l0_3.length c0_3] 28 (0, 0)) (by (with_reducible repeat (first | refine kn_ ?_ _ | refine kd_ ?_ | refine ka_ ?_ _)); exact BK282.out) hb); have n2_ := am_ (bp_ (by repeat (first | (with_reducible first | exact HB.out | apply ba_ | apply pw_below_drewN | apply bd_ | refine bs_ ?_ GE282.out) | exact HB.out)) hb); clear BK282; clear HB; have HO285 := n0_; have BK282 := n1_; have HB := n2_; clear n0_ n1_ n2_; (try clear hb); (try clear hb2); (try clear hk); (try clear hi); (try clear ho0)))
 go_ret2
 exact ⟨_, by first | rfl | (simp [errW_none, errW_some] <;> rfl) | (simp [*, errW_none, errW_some] <;> rfl), by (with_reducible repeat (first | apply Kd.R_alloc | apply Kd.R_drewN | apply Kd.R_drew)); exact HO285.out, by repeat (first | (with_reducible first | exact HB.out | apply ba_ | apply pw_below_drewN | apply bd_ | refine bs_ ?_ GE282.out) | exact HB.out)⟩

/-! ### laws_eqIntS: function 9 -/
def laws_eqIntS.l0 : Nat → List Int → List Int → Int → Option (Bool)
 | 0, _, _, _ => none
 | k + 1, x0, x1, x5 => if x5 < (x0.length : Int) then (if 0 ≤ x5 then (if x5 < (x1.length : Int) then (if (rd x0 x5) = (rd x1 x5) then (laws_eqIntS.l0 k x0 x1 (wrap64 (x5 + 1))) else (some false)) else (none)) else (none)) else (some true)
def laws_eqIntS.f (k : Nat) (l0 : List Int) (l1 : List Int) : Option (Bool) := if (l0.length : Int) = (l1.length : Int) then (laws_eqIntS.l0 k l0 l1 0) else (some false)
theorem laws_eqIntS.mono_l : ∀ k, (∀ y0 y1 y2, LeO (laws_eqIntS.l0 k y0 y1 y2) (laws_eqIntS.l0 (k + 1) y0 y1 y2))
 | 0 => fun _ _ _ r h => by simp [laws_eqIntS.l0] at h
 | k + 1 => by
  have ih0 := laws_eqIntS.mono_l k
  ·
   intro y0 y1 y2
   unfold laws_eqIntS.l0
   repeat' first
   | (with_reducible exact ih0 _ _ _)
   | (with_reducible exact LeO.refl _)
   | (with_reducible exact LeO.none _)
   | (with_reducible refine LeO.ite ?_ ?_)
   | (with_reducible refine LeO.bind ?_ (fun _ => ?_))
   | exact ih0 _ _ _
   | exact LeO.none _
   | refine LeO.ite ?_ ?_
   | refine LeO.bind ?_ (fun _ => ?_)
theorem laws_eqIntS.mono : ∀ a0 a1 k, LeO (laws_eqIntS.f k a0 a1) (laws_eqIntS.f (k + 1) a0 a1) := by
 intro a0 a1 k
 have ih0 := laws_eqIntS.mono_l k
 unfold laws_eqIntS.f
 repeat' first
   | (with_reducible exact ih0 _ _ _)
   | (with_reducible exact LeO.refl _)
   | (with_reducible exact LeO.none _)
   | (with_reducible refine LeO.ite ?_ ?_)
   | (with_reducible refine LeO.bind ?_ (fun _ => ?_))
   | exact ih0 _ _ _
   | exact LeO.none _
   | refine LeO.ite ?_ ?_
   | refine LeO.bind ?_ (fun _ => ?_)
set_option maxHeartbeats 8000000 in
set_option maxRecDepth 100000 in
theorem laws_eqIntS.calls (k : Nat) (A0 : Option Addr) (c0 : Nat) (l0 : List Int) (A1 : Option Addr) (c1 : Nat) (l1 : List Int) (r : Bool) (w : World) (hr0 : Kd.C (Kd.int .i64) w A0 l0.length l0) (hc0 : l0.length ≤ c0) (hr1 : Kd.C (Kd.int .i64) w A1 l1.length l1) (hc1 : l1.length ≤ c1) (h : laws_eqIntS.f k l0 l1 = some r) :
  Calls Try.prog 9 #[.slice A0 l0.length c0, .slice A1 l1.length c1] w fun e w' => e = .returned (.bool r) ∧ Drawn0 w w' := by
 have HR0 := am_ hr0
 have HC0 := am_ hc0
 clear hr0 hc0
 have HR1 := am_ hr1
 have HC1 := am_ hc1
 clear hr1 hc1
 have H : (if (l0.length : Int) = (l1.length : Int) then (laws_eqIntS.l0 k l0 l1 0) else (some false)) = some r := h
 clear h
 by_cases c3 : (l0.length : Int) = (l1.length : Int)
 ·
  rw [if_pos c3] at H
  have c3b0 : ((l0.length : Int) == (l1.length : Int)) = true := beq_iff_eq.mpr c3
  have c3b1 : ((l0.length : Int) != (l1.length : Int)) = false := bne_eq_false_iff_eq.mpr c3
  have c3b2 : (l0.length == l1.length) = true := by first | simpa using c3 | (simp at c3 ⊢; omega)
  clear c3
  have H' := am_ H
  clear H
  go_enter Try.func9, Try.ntmps9
  go_wp2
  repeat (go_quiet (fail); try go_wp2)
  go_loopg [5] k (fun kq v5 w' => ∃ (x5_1 : Int), v5 = .int .i64 x5_1 ∧ Aside0 (laws_eqIntS.l0 kq l0 l1 x5_1 = some r) ∧ Aside0 (kq ≤ k) ∧ Drawn0 w w')
  case atStart => exact ⟨(0), (by first | rfl | (simp; done) | (simp [*]; done)), H', ⟨Nat.le_refl _⟩, by repeat (first | exact Drawn0.refl _ | apply Drawn0.step)⟩
  case round =>
   clear H'
   try clear c1
   try clear p2
   try clear c3
   try clear c3b0
   try clear c3b1
   try clear c3b2
   obtain ⟨x5_1, rfl, HA, HK1, ⟨m1, rfl⟩⟩ := hrel
   cases gk with
   | zero => exact absurd HA.out (by simp [laws_eqIntS.l0])
   | succ k1 =>
    have H := HA.out
    clear HA
    simp only [laws_eqIntS.l0] at H
    by_cases c4 : x5_1 < (l0.length : Int)
    ·
     rw [if_pos c4] at H
     have c4b0 : decide (x5_1 < (l0.length : Int)) = true := decide_eq_true c4
     clear c4
     by_cases c5 : 0 ≤ x5_1
     ·
      rw [if_pos c5] at H
      have c5b0 : decide (0 ≤ x5_1) = true := decide_eq_true c5
      clear c5
      by_cases c6 : x5_1 < (l1.length : Int)
      ·
       rw [if_pos c6] at H
       have c6b0 : decide (x5_1 < (l1.length : Int)) = true := decide_eq_true c6
       clear c6
       by_cases c7 : (rd l0 x5_1) = (rd l1 x5_1)
       ·
        rw [if_pos c7] at H
        have c7b0 : ((rd l0 x5_1) == (rd l1 x5_1)) = true := beq_iff_eq.mpr c7
        have c7b1 : ((rd l0 x5_1) != (rd l1 x5_1)) = false := bne_eq_false_iff_eq.mpr c7
        clear c7
        have H' := am_ H
        clear H
        have p288 : 0 ≤ (x5_1 : Int) := of_decide_eq_true (by first | (with_reducible assumption) | assumption)
        have q288 : x5_1 < (l0.length : Int) := of_decide_eq_true (by first | (with_reducible assumption) | assumption)
        obtain ⟨ad288, e288, hx288_0⟩ := Kd.at_int HR0.out x5_1 p288 q288
        cases e288
        replace p288 := eq_true p288
        replace q288 := eq_true q288
        have p289 : 0 ≤ (x5_1 : Int) := of_decide_eq_true (by first | (with_reducible assumption) | assumption)
        have q289 : x5_1 < (l1.length : Int) := of_decide_eq_true (by first | (with_reducible assumption) | assumption)
        obtain ⟨ad289, e289, hx289_0⟩ := Kd.at_int HR1.out x5_1 p289 q289
        cases e289
        replace p289 := eq_true p289
        replace q289 := eq_true q289
        go_wp2
        repeat (go_quiet (fail); try go_wp2)
        go_roundg k1
        case measure => have := HK1.out; omega
        case rel => exact ⟨(wrap64 (x5_1 + 1)), (by first | rfl | (simp; done) | (simp [*]; done)), H', ⟨by have := HK1.out; omega⟩, by repeat (first | exact Drawn0.refl _ | apply Drawn0.step)⟩
       ·
        rw [if_neg c7] at H
        have c7b0 : ((rd l0 x5_1) == (rd l1 x5_1)) = false := beq_eq_false_iff_ne.mpr c7
        have c7b1 : ((rd l0 x5_1) != (rd l1 x5_1)) = true := bne_iff_ne.mpr c7
        obtain rfl := Option.some.inj H
        have p288 : 0 ≤ (x5_1 : Int) := of_decide_eq_true (by first | (with_reducible assumption) | assumption)
        have q288 : x5_1 < (l0.length : Int) := of_decide_eq_true (by first | (with_reducible assumption) | assumption)
        obtain ⟨ad288, e288, hx288_0⟩ := Kd.at_int HR0.out x5_1 p288 q288
        cases e288
        replace p288 := eq_true p288
        replace q288 := eq_true q288
        have p289 : 0 ≤ (x5_1 : Int) := of_decide_eq_true (by first | (with_reducible assumption) | assumption)
        have q289 : x5_1 < (l1.length : Int) := of_decide_eq_true (by first | (with_reducible assumption) | assumption)
        obtain ⟨ad289, e289, hx289_0⟩ := Kd.at_int HR1.out x5_1 p289 q289
        cases e289
        replace p289 := eq_true p289
        replace q289 := eq_true q289
        go_wp2
        repeat (go_quiet (fail); try go_wp2)
        go_ret
        exact ⟨by first | rfl | (simp; done) | (simp [*]; done), by repeat (first | exact Drawn0.refl _ | apply Drawn0.step)⟩
      ·
       rw [if_neg c6] at H
       exact absurd H (by simp)
     ·
      rw [if_neg c5] at H
      exact absurd H (by simp)
    ·
     rw [if_neg c4] at H
     have c4b0 : decide (x5_1 < (l0.length : Int)) = false := decide_eq_false c4
     clear c4
     obtain rfl := Option.some.inj H
     go_wp2
     repeat (go_quiet (fail); try go_wp2)
     go_ret
     exact ⟨by first | rfl | (simp; done) | (simp [*]; done), by repeat (first | exact Drawn0.refl _ | apply Drawn0.step)⟩
 ·
  rw [if_neg c3] at H
  have c3b0 : ((l0.length : Int) == (l1.length : Int)) = false := beq_eq_false_iff_ne.mpr c3
  have c3b1 : ((l0.length : Int) != (l1.length : Int)) = true := bne_iff_ne.mpr c3
  have c3b2 : (l0.length == l1.length) = false := by first | simpa using c3 | (simp at c3 ⊢; omega)
  obtain rfl := Option.some.inj H
  go_enter Try.func9, Try.ntmps9
  go_wp2
  repeat (go_quiet (fail); try go_wp2)
  go_ret
  exact ⟨by first | rfl | (simp; done) | (simp [*]; done), by repeat (first | exact Drawn0.refl _ | apply Drawn0.step)⟩

/-! ### laws_eqCase: function 10 -/
def laws_eqCase.f (k : Nat) (l0_0 : List Int) (l0_1 : List Int) (l0_2 : List Int) (l0_3 : List Int) (l1_0 : List Int) (l1_1 : List Int) (l1_2 : List Int) (l1_3 : List Int) : Option (Bool) := (laws_eqIntS.f k l0_0 l1_0).bind fun t292 => (if t292 = true then ((laws_eqIntS.f k l0_1 l1_1).bind fun t293 => (if t293 = true then ((laws_eqIntS.f k l0_2 l1_2).bind fun t294 => (if t294 = true then ((laws_eqIntS.f k l0_3 l1_3).bind fun t295 => (if t295 = true then (some true) else (some false))) else (some false))) else (some false))) else (some false))
theorem laws_eqCase.mono : ∀ a0 a1 a2 a3 a4 a5 a6 a7 k, LeO (laws_eqCase.f k a0 a1 a2 a3 a4 a5 a6 a7) (laws_eqCase.f (k + 1) a0 a1 a2 a3 a4 a5 a6 a7) := by
 intro a0 a1 a2 a3 a4 a5 a6 a7 k
 unfold laws_eqCase.f
 repeat' first
   | (with_reducible exact laws_eqIntS.mono _ _ _)
   | (with_reducible exact LeO.refl _)
   | (with_reducible exact LeO.none _)
   | (with_reducible refine LeO.ite ?_ ?_)
   | (with_reducible refine LeO.bind ?_ (fun _ => ?_))
   | exact laws_eqIntS.mono _ _ _
   | exact LeO.none _
   | refine LeO.ite ?_ ?_
   | refine LeO.bind ?_ (fun _ => ?_)
set_option maxHeartbeats 8000000 in
set_option maxRecDepth 100000 in
theorem laws_eqCase.calls (k : Nat) (A0_0 : Option Addr) (c0_0 : Nat) (l0_0 : List Int) (A0_1 : Option Addr) (c0_1 : Nat) (l0_1 : List Int) (A0_2 : Option Addr) (c0_2 : Nat) (l0_2 : List Int) (A0_3 : Option Addr) (c0_3 : Nat) (l0_3 : List Int) (A1_0 : Option Addr) (c1_0 : Nat) (l1_0 : List Int) (A1_1 : Option Addr) (c1_1 : Nat) (l1_1 : List Int) (A1_2 : Option Addr) (c1_2 : Nat) (l1_2 : List Int) (A1_3 : Option Addr) (c1_3 : Nat) (l1_3 : List Int) (r : Bool) (w : World) (hr0_0 : Kd.C (Kd.int .i64) w A0_0 l0_0.length l0_0) (hc0_0 : l0_0.length ≤ c0_0) (hr0_1 : Kd.C (Kd.int .i64) w A0_1 l0_1.length l0_1) (hc0_1 : l0_1.length ≤ c0_1) (hr0_2 : Kd.C (Kd.int .i64) w A0_2 l0_2.length l0_2) (hc0_2 : l0_2.length ≤ c0_2) (hr0_3 : Kd.C (Kd.int .i64) w A0_3 l0_3.length l0_3) (hc0_3 : l0_3.length ≤ c0_3) (hr1_0 : Kd.C (Kd.int .i64) w A1_0 l1_0.length l1_0) (hc1_0 : l1_0.length ≤ c1_0) (hr1_1 : Kd.C (Kd.int .i64) w A1_1 l1_1.length l1_1) (hc1_1 : l1_1.length ≤ c1_1) (hr1_2 : Kd.C (Kd.int .i64) w A1_2 l1_2.length l1_2) (hc1_2 : l1_2.length ≤ c1_2) (hr1_3 : Kd.C (Kd.int .i64) w A1_3 l1_3.length l1_3) (hc1_3 : l1_3.length ≤ c1_3) (h : laws_eqCase.f k l0_0 l0_1 l0_2 l0_3 l1_0 l1_1 l1_2 l1_3 = some r) :
  Calls Try.prog 10 #[.agg #[.slice A0_0 l0_0.length c0_0, .slice A0_1 l0_1.length c0_1, .slice A0_2 l0_2.length c0_2, .slice A0_3 l0_3.length c0_3], .agg #[.slice A1_0 l1_0.length c1_0, .slice A1_1 l1_1.length c1_1, .slice A1_2 l1_2.length c1_2, .slice A1_3 l1_3.length c1_3]] w fun e w' => e = .returned (.bool r) ∧ Below w.heap.size w w' := by
 have hu28 := Try.underlying28
 have HR0_0 := am_ hr0_0
 have HC0_0 := am_ hc0_0
 clear hr0_0 hc0_0
 have HR0_1 := am_ hr0_1
 have HC0_1 := am_ hc0_1
 clear hr0_1 hc0_1
 have HR0_2 := am_ hr0_2
 have HC0_2 := am_ hc0_2
 clear hr0_2 hc0_2
 have HR0_3 := am_ hr0_3
 have HC0_3 := am_ hc0_3
 clear hr0_3 hc0_3
 have HR1_0 := am_ hr1_0
 have HC1_0 := am_ hc1_0
 clear hr1_0 hc1_0
 have HR1_1 := am_ hr1_1
 have HC1_1 := am_ hc1_1
 clear hr1_1 hc1_1
 have HR1_2 := am_ hr1_2
 have HC1_2 := am_ hc1_2
 clear hr1_2 hc1_2
 have HR1_3 := am_ hr1_3
 have HC1_3 := am_ hc1_3
 clear hr1_3 hc1_3
 have HB := am_ (Below.refl w.heap.size w)
 have H : ((laws_eqIntS.f k l0_0 l1_0).bind fun t292 => (if t292 = true then ((laws_eqIntS.f k l0_1 l1_1).bind fun t293 => (if t293 = true then ((laws_eqIntS.f k l0_2 l1_2).bind fun t294 => (if t294 = true then ((laws_eqIntS.f k l0_3 l1_3).bind fun t295 => (if t295 = true then (some true) else (some false))) else (some false))) else (some false))) else (some false))) = some r := h
 clear h
 replace H := Option.bind_eq_some_iff.mp H
 obtain ⟨t292, A30, H⟩ := H
 replace H : (if t292 = true then ((laws_eqIntS.f k l0_1 l1_1).bind fun t293 => (if t293 = true then ((laws_eqIntS.f k l0_2 l1_2).bind fun t294 => (if t294 = true then ((laws_eqIntS.f k l0_3 l1_3).bind fun t295 => (if t295 = true then (some true) else (some false))) else (some false))) else (some false))) else (some false)) = some r := H
 have A3 := am_ A30
 clear A30
 by_cases c4 : t292 = true
 ·
  subst c4
  have H1 : ((laws_eqIntS.f k l0_1 l1_1).bind fun t293 => (if t293 = true then ((laws_eqIntS.f k l0_2 l1_2).bind fun t294 => (if t294 = true then ((laws_eqIntS.f k l0_3 l1_3).bind fun t295 => (if t295 = true then (some true) else (some false))) else (some false))) else (some false))) = some r := by rw [if_pos rfl] at H; exact H
  clear H
  have H := H1
  clear H1
  replace H := Option.bind_eq_some_iff.mp H
  obtain ⟨t293, A50, H⟩ := H
  replace H : (if t293 = true then ((laws_eqIntS.f k l0_2 l1_2).bind fun t294 => (if t294 = true then ((laws_eqIntS.f k l0_3 l1_3).bind fun t295 => (if t295 = true then (some true) else (some false))) else (some false))) else (some false)) = some r := H
  have A5 := am_ A50
  clear A50
  by_cases c6 : t293 = true
  ·
   subst c6
   have H1 : ((laws_eqIntS.f k l0_2 l1_2).bind fun t294 => (if t294 = true then ((laws_eqIntS.f k l0_3 l1_3).bind fun t295 => (if t295 = true then (some true) else (some false))) else (some false))) = some r := by rw [if_pos rfl] at H; exact H
   clear H
   have H := H1
   clear H1
   replace H := Option.bind_eq_some_iff.mp H
   obtain ⟨t294, A70, H⟩ := H
   replace H : (if t294 = true then ((laws_eqIntS.f k l0_3 l1_3).bind fun t295 => (if t295 = true then (some true) else (some false))) else (some false)) = some r := H
   have A7 := am_ A70
   clear A70
   by_cases c8 : t294 = true
   ·
    subst c8
    have H1 : ((laws_eqIntS.f k l0_3 l1_3).bind fun t295 => (if t295 = true then (some true) else (some false))) = some r := by rw [if_pos rfl] at H; exact H
    clear H
    have H := H1
    clear H1
    replace H := Option.bind_eq_some_iff.mp H
    obtain ⟨t295, A90, H⟩ := H
    replace H : (if t295 = true then (some true) else (some false)) = some r := H
    have A9 := am_ A90
    clear A90
    by_cases c10 : t295 = true
    ·
     subst c10
     have H1 : (some true) = some r := by rw [if_pos rfl] at H; exact H
     clear H
     have H := H1
     clear H1
     obtain rfl := Option.some.inj H
     go_enter Try.func10, Try.ntmps10
     go_wp2_with (first | ((with_reducible refine gate_dst (N := 2) rfl ?_); refine box_event ?hg (N := 2) ?hd (cs := #[.slice A0_0 l0_0.length c0_0, .slice A0_1 l0_1.length c0_1, .slice A0_2 l0_2.length c0_2, .slice A0_3 l0_3.length c0_3]) (t := 28) ?hr ?_; (case hd => rfl); (case hg => rfl); (case hr => first | (go_simp; done) | (go_simp; rfl)); intro gb290 hg w11 hbox hb; have n0_ := am_ (bp_ (by repeat (first | (with_reducible first | exact HB.out | apply ba_ | apply pw_below_drewN | apply bd_) | exact HB.out)) hb); have n1_ := am_ (hbox); have n2_ := am_ ((by rw [hg]; exact (bz_ (by repeat (first | (with_reducible first | exact HB.out | apply ba_ | apply pw_below_drewN | apply bd_) | exact HB.out))) : w.heap.size ≤ gb290)); have n3_ := am_ ((by rw [hg]; exact (bz_ (by repeat (first | (with_reducible first | exact HB.out | apply ba_ | apply pw_below_drewN | apply bd_) | exact HB.out))) : w.heap.size ≤ gb290)); clear HB; have HB := n0_; have BK290 := n1_; have GW290 := n2_; have GE290 := n3_; clear n0_ n1_ n2_ n3_; clear hb hbox hg) | ((with_reducible refine gate_dst (N := 3) rfl ?_); refine box_event ?hg (N := 3) ?hd (cs := #[.slice A1_0 l1_0.length c1_0, .slice A1_1 l1_1.length c1_1, .slice A1_2 l1_2.length c1_2, .slice A1_3 l1_3.length c1_3]) (t := 28) ?hr ?_; (case hd => rfl); (case hg => rfl); (case hr => first | (go_simp; done) | (go_simp; rfl)); intro gb291 hg w12 hbox hb; have n0_ := am_ (kb_ (g := gb290) (o := .cells #[.slice A0_0 l0_0.length c0_0, .slice A0_1 l0_1.length c0_1, .slice A0_2 l0_2.length c0_2, .slice A0_3 l0_3.length c0_3] 28 (0, 0)) (by (with_reducible repeat (first | refine kn_ ?_ _ | refine kd_ ?_ | refine ka_ ?_ _)); exact BK290.out) hb); have n1_ := am_ (bp_ (by repeat (first | (with_reducible first | exact HB.out | apply ba_ | apply pw_below_drewN | apply bd_ | refine bs_ ?_ GE290.out) | exact HB.out)) hb); have n2_ := am_ (hbox); have n3_ := am_ ((by rw [hg]; exact (bz_ (by repeat (first | (with_reducible first | exact HB.out | apply ba_ | apply pw_below_drewN | apply bd_ | refine bs_ ?_ GE290.out) | exact HB.out))) : w.heap.size ≤ gb291)); have n4_ := am_ ((by rw [hg]; exact (bz_ (by repeat (first | (with_reducible first | exact HB.out | apply ba_ | apply pw_below_drewN | apply bd_ | refine bs_ ?_ GE290.out) | exact HB.out))) : w.heap.size ≤ gb291)); have n5_ := am_ ((by rw [hg]; exact Nat.ne_of_lt (blk_lt (g := gb290) (o := .cells #[.slice A0_0 l0_0.length c0_0, .slice A0_1 l0_1.length c0_1, .slice A0_2 l0_2.length c0_2, .slice A0_3 l0_3.length c0_3] 28 (0, 0)) (by (with_reducible repeat (first | refine kn_ ?_ _ | refine kd_ ?_ | refine ka_ ?_ _)); exact BK290.out)) : gb290 ≠ gb291)); have n6_ := am_ ((by rw [hg]; exact Nat.ne_of_gt (blk_lt (g := gb290) (o := .cells #[.slice A0_0 l0_0.length c0_0, .slice A0_1 l0_1.length c0_1, .slice A0_2 l0_2.length c0_2, .slice A0_3 l0_3.length c0_3] 28 (0, 0)) (by (with_reducible repeat (first | refine kn_ ?_ _ | refine kd_ ?_ | refine ka_ ?_ _)); exact BK290.out)) : gb291 ≠ gb290)); clear BK290; clear HB; have BK290 := n0_; have HB := n1_; have BK291 := n2_; have GW291 := n3_; have GE291 := n4_; have NB290_291 := n5_; have NB291_290 := n6_; clear n0_ n1_ n2_ n3_ n4_ n5_ n6_; clear hb hbox hg; have hnb13 := NB290_291.out; have hnc13 := NB291_290.out; have hcz14_0 : w12.cell? ⟨gb290, 0, none⟩ = some (.slice A0_0 l0_0.length c0_0) := (kc_ BK290.out 0).trans rfl; have hcz14_1 : w12.cell? ⟨gb290, 1, none⟩ = some (.slice A0_1 l0_1.length c0_1) := (kc_ BK290.out 1).trans rfl; have hcz14_2 : w12.cell? ⟨gb290, 2, none⟩ = some (.slice A0_2 l0_2.length c0_2) := (kc_ BK290.out 2).trans rfl; have hcz14_3 : w12.cell? ⟨gb290, 3, none⟩ = some (.slice A0_3 l0_3.length c0_3) := (kc_ BK290.out 3).trans rfl; have hfz14_0 := kf_ BK290.out 0; have hfz14_1 := kf_ BK290.out 1; have hfz14_2 := kf_ BK290.out 2; have hfz14_3 := kf_ BK290.out 3; have hcz15_0 : w12.cell? ⟨gb291, 0, none⟩ = some (.slice A1_0 l1_0.length c1_0) := (kc_ BK291.out 0).trans rfl; have hcz15_1 : w12.cell? ⟨gb291, 1, none⟩ = some (.slice A1_1 l1_1.length c1_1) := (kc_ BK291.out 1).trans rfl; have hcz15_2 : w12.cell? ⟨gb291, 2, none⟩ = some (.slice A1_2 l1_2.length c1_2) := (kc_ BK291.out 2).trans rfl; have hcz15_3 : w12.cell? ⟨gb291, 3, none⟩ = some (.slice A1_3 l1_3.length c1_3) := (kc_ BK291.out 3).trans rfl; have hfz15_0 := kf_ BK291.out 0; have hfz15_1 := kf_ BK291.out 1; have hfz15_2 := kf_ BK291.out 2; have hfz15_3 := kf_ BK291.out 3) | ((with_reducible refine gc_ (f := 9) rfl ?_); refine goesL_ (some 9) rfl rfl Try.func9 (by kernel_rfl) rfl #[.slice A0_0 l0_0.length c0_0, .slice A1_0 l1_0.length c1_0] rfl (by (try simp only [List.map_toArray, List.map_cons, List.map_nil]); first | done | rfl | (simp only [List.length_drop, List.length_take]; rfl)) ?_; (with_reducible refine (laws_eqIntS.calls k _ _ l0_0 _ _ l1_0 true _ ?side1 ?side2 ?side3 ?side4 A3.out).mono ?_); (case side1 => repeat (first | exact (cb_ HR0_0.out HB.out) | (with_reducible refine ca_ ?_ _) | (with_reducible refine cn_ ?_ _) | (with_reducible refine cd_ ?_))); (case side2 => exact HC0_0.out); (case side3 => repeat (first | exact (cb_ HR1_0.out HB.out) | (with_reducible refine ca_ ?_ _) | (with_reducible refine cn_ ?_ _) | (with_reducible refine cd_ ?_))); (case side4 => exact HC1_0.out); rintro e w' ⟨rfl, ⟨nd, rfl⟩⟩; refine ⟨_, rfl, ?_⟩) | ((with_reducible refine gc_ (f := 9) rfl ?_); refine goesL_ (some 15) rfl rfl Try.func9 (by kernel_rfl) rfl #[.slice A0_1 l0_1.length c0_1, .slice A1_1 l1_1.length c1_1] rfl (by (try simp only [List.map_toArray, List.map_cons, List.map_nil]); first | done | rfl | (simp only [List.length_drop, List.length_take]; rfl)) ?_; (with_reducible refine (laws_eqIntS.calls k _ _ l0_1 _ _ l1_1 true _ ?side1 ?side2 ?side3 ?side4 A5.out).mono ?_); (case side1 => repeat (first | exact (cb_ HR0_1.out (by repeat (first | (with_reducible first | exact HB.out | apply ba_ | apply pw_below_drewN | apply bd_ | refine bs_ ?_ GE290.out | refine bs_ ?_ GE291.out) | exact HB.out))) | (with_reducible refine ca_ ?_ _) | (with_reducible refine cn_ ?_ _) | (with_reducible refine cd_ ?_))); (case side2 => exact HC0_1.out); (case side3 => repeat (first | exact (cb_ HR1_1.out (by repeat (first | (with_reducible first | exact HB.out | apply ba_ | apply pw_below_drewN | apply bd_ | refine bs_ ?_ GE290.out | refine bs_ ?_ GE291.out) | exact HB.out))) | (with_reducible refine ca_ ?_ _) | (with_reducible refine cn_ ?_ _) | (with_reducible refine cd_ ?_))); (case side4 => exact HC1_1.out); rintro e w' ⟨rfl, ⟨nd, rfl⟩⟩; refine ⟨_, rfl, ?_⟩) | ((with_reducible refine gc_ (f := 9) rfl ?_); refine goesL_ (some 21) rfl rfl Try.func9 (by kernel_rfl) rfl #[.slice A0_2 l0_2.length c0_2, .slice A1_2 l1_2.length c1_2] rfl (by (try simp only [List.map_toArray, List.map_cons, List.map_nil]); first | done | rfl | (simp only [List.length_drop, List.length_take]; rfl)) ?_; (with_reducible refine (laws_eqIntS.calls k _ _ l0_2 _ _ l1_2 true _ ?side1 ?side2 ?side3 ?side4 A7.out).mono ?_); (case side1 => repeat (first | exact (cb_ HR0_2.out (by repeat (first | (with_reducible first | exact HB.out | apply ba_ | apply pw_below_drewN | apply bd_ | refine bs_ ?_ GE290.out | refine bs_ ?_ GE291.out) | exact HB.out))) | (with_reducible refine ca_ ?_ _) | (with_reducible refine cn_ ?_ _) | (with_reducible refine cd_ ?_))); (case side2 => exact HC0_2.out); (case side3 => repeat (first | exact (cb_ HR1_2.out (by repeat (first | (with_reducible first | exact HB.out | apply ba_ | apply pw_below_drewN | apply bd_ | refine bs_ ?_ GE290.out | refine bs_ ?_ GE291.out) | exact HB.out))) | (with_reducible refine ca_ ?_ _) | (with_reducible refine cn_ ?_ _) | (with_reducible refine cd_ ?_))); (case side4 => exact HC1_2.out); rintro e w' ⟨rfl, ⟨nd, rfl⟩⟩; refine ⟨_, rfl, ?_⟩) | ((with_reducible refine gc_ (f := 9) rfl ?_); refine goesL_ (some 27) rfl rfl Try.func9 (by kernel_rfl) rfl #[.slice A0_3 l0_3.length c0_3, .slice A1_3 l1_3.length c1_3] rfl (by (try simp only [List.map_toArray, List.map_cons, List.map_nil]); first | done | rfl | (simp only [List.length_drop, List.length_take]; rfl)) ?_; (with_reducible refine (laws_eqIntS.calls k _ _ l0_3 _ _ l1_3 true _ ?side1 ?side2 ?side3 ?side4 A9.out).mono ?_); (case side1 => repeat (first | exact (cb_ HR0_3.out (by repeat (first | (with_reducible first | exact HB.out | apply ba_ | apply pw_below_drewN | apply bd_ | refine bs_ ?_ GE290.out | refine bs_ ?_ GE291.out) | exact HB.out))) | (with_reducible refine ca_ ?_ _) | (with_reducible refine cn_ ?_ _) | (with_reducible refine cd_ ?_))); (case side2 => exact HC0_3.out); (case side3 => repeat (first | exact (cb_ HR1_3.out (by repeat (first | (with_reducible first | exact HB.out | apply ba_ | apply pw_below_drewN | apply bd_ | refine bs_ ?_ GE290.out | refine bs_ ?_ GE291.out) | exact HB.out))) | (with_reducible refine ca_ ?_ _) | (with_reducible refine cn_ ?_ _) | (with_reducible refine cd_ ?_))); (case side4 => exact HC1_3.out); rintro e w' ⟨rfl, ⟨nd, rfl⟩⟩; refine ⟨_, rfl, ?_⟩))
     go_ret
     exact ⟨by first | rfl | (simp [errW_none, errW_some] <;> rfl) | (simp [*, errW_none, errW_some] <;> rfl), by repeat (first | (with_reducible first | exact HB.out | apply ba_ | apply pw_below_drewN | apply bd_ | refine bs_ ?_ GE290.out | refine bs_ ?_ GE291.out) | exact HB.out)⟩
    ·
     replace c10 := Bool.eq_false_iff.mpr c10
     subst c10
     have H1 : (some false) = some r := by rw [if_neg (show ¬ (false = true) by decide)] at H; exact H
     clear H
     have H := H1
     clear H1
     obtain rfl := Option.some.inj H
     go_enter Try.func10, Try.ntmps10
     go_wp2_with (first | ((with_reducible refine gate_dst (N := 2) rfl ?_); refine box_event ?hg (N := 2) ?hd (cs := #[.slice A0_0 l0_0.length c0_0, .slice A0_1 l0_1.length c0_1, .slice A0_2 l0_2.length c0_2, .slice A0_3 l0_3.length c0_3]) (t := 28) ?hr ?_; (case hd => rfl); (case hg => rfl); (case hr => first | (go_simp; done) | (go_simp; rfl)); intro gb290 hg w16 hbox hb; have n0_ := am_ (bp_ (by repeat (first | (with_reducible first | exact HB.out | apply ba_ | apply pw_below_drewN | apply bd_) | exact HB.out)) hb); have n1_ := am_ (hbox); have n2_ := am_ ((by rw [hg]; exact (bz_ (by repeat (first | (with_reducible first | exact HB.out | apply ba_ | apply pw_below_drewN | apply bd_) | exact HB.out))) : w.heap.size ≤ gb290)); have n3_ := am_ ((by rw [hg]; exact (bz_ (by repeat (first | (with_reducible first | exact HB.out | apply ba_ | apply pw_below_drewN | apply bd_) | exact HB.out))) : w.heap.size ≤ gb290)); clear HB; have HB := n0_; have BK290 := n1_; have GW290 := n2_; have GE290 := n3_; clear n0_ n1_ n2_ n3_; clear hb hbox hg) | ((with_reducible refine gate_dst (N := 3) rfl ?_); refine box_event ?hg (N := 3) ?hd (cs := #[.slice A1_0 l1_0.length c1_0, .slice A1_1 l1_1.length c1_1, .slice A1_2 l1_2.length c1_2, .slice A1_3 l1_3.length c1_3]) (t := 28) ?hr ?_; (case hd => rfl); (case hg => rfl); (case hr => first | (go_simp; done) | (go_simp; rfl)); intro gb291 hg w17 hbox hb; have n0_ := am_ (kb_ (g := gb290) (o := .cells #[.slice A0_0 l0_0.length c0_0, .slice A0_1 l0_1.length c0_1, .slice A0_2 l0_2.length c0_2, .slice A0_3 l0_3.length c0_3] 28 (0, 0)) (by (with_reducible repeat (first | refine kn_ ?_ _ | refine kd_ ?_ | refine ka_ ?_ _)); exact BK290.out) hb); have n1_ := am_ (bp_ (by repeat (first | (with_reducible first | exact HB.out | apply ba_ | apply pw_below_drewN | apply bd_ | refine bs_ ?_ GE290.out) | exact HB.out)) hb); have n2_ := am_ (hbox); have n3_ := am_ ((by rw [hg]; exact (bz_ (by repeat (first | (with_reducible first | exact HB.out | apply ba_ | apply pw_below_drewN | apply bd_ | refine bs_ ?_ GE290.out) | exact HB.out))) : w.heap.size ≤ gb291)); have n4_ := am_ ((by rw [hg]; exact (bz_ (by repeat (first | (with_reducible first | exact HB.out | apply ba_ | apply pw_below_drewN | apply bd_ | refine bs_ ?_ GE290.out) | exact HB.out))) : w.heap.size ≤ gb291)); have n5_ := am_ ((by rw [hg]; exact Nat.ne_of_lt (blk_lt (g := gb290) (o := .cells #[.slice A0_0 l0_0.length c0_0, .slice A0_1 l0_1.length c0_1, .slice A0_2 l0_2.length c0_2, .slice A0_3 l0_3.length c0_3] 28 (0, 0)) (by (with_reducible repeat (first | refine kn_ ?_ _ | refine kd_ ?_ | refine ka_ ?_ _)); exact BK290.out)) : gb290 ≠ gb291)); have n6_ := am_ ((by rw [hg]; exact Nat.ne_of_gt (blk_lt (g := gb290) (o := .cells #[.slice A0_0 l0_0.length c0_0, .slice A0_1 l0_1.length c0_1, .slice A0_2 l0_2.length c0_2, .slice A0_3 l0_3.length c0_3] 28 (0, 0)) (by (with_reducible repeat (first | refine kn_ ?_ _ | refine kd_ ?_ | refine ka_ ?_ _)); exact BK290.out)) : gb291 ≠ gb290)); clear BK290; clear HB; have BK290 := n0_; have HB := n1_; have BK291 := n2_; have GW291 := n3_; have GE291 := n4_; have NB290_291 := n5_; have NB291_290 := n6_; clear n0_ n1_ n2_ n3_ n4_ n5_ n6_; clear hb hbox hg; have hnb18 := NB290_291.out; have hnc18 := NB291_290.out; have hcz19_0 : w17.cell? ⟨gb290, 0, none⟩ = some (.slice A0_0 l0_0.length c0_0) := (kc_ BK290.out 0).trans rfl; have hcz19_1 : w17.cell? ⟨gb290, 1, none⟩ = some (.slice A0_1 l0_1.length c0_1) := (kc_ BK290.out 1).trans rfl; have hcz19_2 : w17.cell? ⟨gb290, 2, none⟩ = some (.slice A0_2 l0_2.length c0_2) := (kc_ BK290.out 2).trans rfl; have hcz19_3 : w17.cell? ⟨gb290, 3, none⟩ = some (.slice A0_3 l0_3.length c0_3) := (kc_ BK290.out 3).trans rfl; have hfz19_0 := kf_ BK290.out 0; have hfz19_1 := kf_ BK290.out 1; have hfz19_2 := kf_ BK290.out 2; have hfz19_3 := kf_ BK290.out 3; have hcz20_0 : w17.cell? ⟨gb291, 0, none⟩ = some (.slice A1_0 l1_0.length c1_0) := (kc_ BK291.out 0).trans rfl; have hcz20_1 : w17.cell? ⟨gb291, 1, none⟩ = some (.slice A1_1 l1_1.length c1_1) := (kc_ BK291.out 1).trans rfl; have hcz20_2 : w17.cell? ⟨gb291, 2, none⟩ = some (.slice A1_2 l1_2.length c1_2) := (kc_ BK291.out 2).trans rfl; have hcz20_3 : w17.cell? ⟨gb291, 3, none⟩ = some (.slice A1_3 l1_3.length c1_3) := (kc_ BK291.out 3).trans rfl; have hfz20_0 := kf_ BK291.out 0; have hfz20_1 := kf_ BK291.out 1; have hfz20_2 := kf_ BK291.out 2; have hfz20_3 := kf_ BK291.out 3) | ((with_reducible refine gc_ (f := 9) rfl ?_); refine goesL_ (some 9) rfl rfl Try.func9 (by kernel_rfl) rfl #[.slice A0_0 l0_0.length c0_0, .slice A1_0 l1_0.length c1_0] rfl (by (try simp only [List.map_toArray, List.map_cons, List.map_nil]); first | done | rfl | (simp only [List.length_drop, List.length_take]; rfl)) ?_; (with_reducible refine (laws_eqIntS.calls k _ _ l0_0 _ _ l1_0 true _ ?side1 ?side2 ?side3 ?side4 A3.out).mono ?_); (case side1 => repeat (first | exact (cb_ HR0_0.out HB.out) | (with_reducible refine ca_ ?_ _) | (with_reducible refine cn_ ?_ _) | (with_reducible refine cd_ ?_))); (case side2 => exact HC0_0.out); (case side3 => repeat (first | exact (cb_ HR1_0.out HB.out) | (with_reducible refine ca_ ?_ _) | (with_reducible refine cn_ ?_ _) | (with_reducible refine cd_ ?_))); (case side4 => exact HC1_0.out); rintro e w' ⟨rfl, ⟨nd, rfl⟩⟩; refine ⟨_, rfl, ?_⟩) | ((with_reducible refine gc_ (f := 9) rfl ?_); refine goesL_ (some 15) rfl rfl Try.func9 (by kernel_rfl) rfl #[.slice A0_1 l0_1.length c0_1, .slice A1_1 l1_1.length c1_1] rfl (by (try simp only [List.map_toArray, List.map_cons, List.map_nil]); first | done | rfl | (simp only [List.length_drop, List.length_take]; rfl)) ?_; (with_reducible refine (laws_eqIntS.calls k _ _ l0_1 _ _ l1_1 true _ ?side1 ?side2 ?side3 ?side4 A5.out).mono ?_); (case side1 => repeat (first | exact (cb_ HR0_1.out (by repeat (first | (with_reducible first | exact HB.out | apply ba_ | apply pw_below_drewN | apply bd_ | refine bs_ ?_ GE290.out | refine bs_ ?_ GE291.out) | exact HB.out))) | (with_reducible refine ca_ ?_ _) | (with_reducible refine cn_ ?_ _) | (with_reducible refine cd_ ?_))); (case side2 => exact HC0_1.out); (case side3 => repeat (first | exact (cb_ HR1_1.out (by repeat (first | (with_reducible first | exact HB.out | apply ba_ | apply pw_below_drewN | apply bd_ | refine bs_ ?_ GE290.out | refine bs_ ?_ GE291.out) | exact HB.out))) | (with_reducible refine ca_ ?_ _) | (with_reducible refine cn_ ?_ _) | (with_reducible refine cd_ ?_))); (case side4 => exact HC1_1.out); rintro e w' ⟨rfl, ⟨nd, rfl⟩⟩; refine ⟨_, rfl, ?_⟩) | ((with_reducible refine gc_ (f := 9) rfl ?_); refine goesL_ (some 21) rfl rfl Try.func9 (by kernel_rfl) rfl #[.slice A0_2 l0_2.length c0_2, .slice A1_2 l1_2.length c1_2] rfl (by (try simp only [List.map_toArray, List.map_cons, List.map_nil]); first | done | rfl | (simp only [List.length_drop, List.length_take]; rfl)) ?_; (with_reducible refine (laws_eqIntS.calls k _ _ l0_2 _ _ l1_2 true _ ?side1 ?side2 ?side3 ?side4 A7.out).mono ?_); (case side1 => repeat (first | exact (cb_ HR0_2.out (by repeat (first | (with_reducible first | exact HB.out | apply ba_ | apply pw_below_drewN | apply bd_ | refine bs_ ?_ GE290.out | refine bs_ ?_ GE291.out) | exact HB.out))) | (with_reducible refine ca_ ?_ _) | (with_reducible refine cn_ ?_ _) | (with_reducible refine cd_ ?_))); (case side2 => exact HC0_2.out); (case side3 => repeat (first | exact (cb_ HR1_2.out (by repeat (first | (with_reducible first | exact HB.out | apply ba_ | apply pw_below_drewN | apply bd_ | refine bs_ ?_ GE290.out | refine bs_ ?_ GE291.out) | exact HB.out))) | (with_reducible refine ca_ ?_ _) | (with_reducible refine cn_ ?_ _) | (with_reducible refine cd_ ?_))); (case side4 => exact HC1_2.out); rintro e w' ⟨rfl, ⟨nd, rfl⟩⟩; refine ⟨_, rfl, ?_⟩) | ((with_reducible refine gc_ (f := 9) rfl ?_); refine goesL_ (some 27) rfl rfl Try.func9 (by kernel_rfl) rfl #[.slice A0_3 l0_3.length c0_3, .slice A1_3 l1_3.length c1_3] rfl (by (try simp only [List.map_toArray, List.map_cons, List.map_nil]); first | done | rfl | (simp only [List.length_drop, List.length_take]; rfl)) ?_; (with_reducible refine (laws_eqIntS.calls k _ _ l0_3 _ _ l1_3 false _ ?side1 ?side2 ?side3 ?side4 A9.out).mono ?_); (case side1 => repeat (first | exact (cb_ HR0_3.out (by repeat (first | (with_reducible first | exact HB.out | apply ba_ | apply pw_below_drewN | apply bd_ | refine bs_ ?_ GE290.out | refine bs_ ?_ GE291.out) | exact HB.out))) | (with_reducible refine ca_ ?_ _) | (with_reducible refine cn_ ?_ _) | (with_reducible refine cd_ ?_))); (case side2 => exact HC0_3.out); (case side3 => repeat (first | exact (cb_ HR1_3.out (by repeat (first | (with_reducible first | exact HB.out | apply ba_ | apply pw_below_drewN | apply bd_ | refine bs_ ?_ GE290.out | refine bs_ ?_ GE291.out) | exact HB.out))) | (with_reducible refine ca_ ?_ _) | (with_reducible refine cn_ ?_ _) | (with_reducible refine cd_ ?_))); (case side4 => exact HC1_3.out); rintro e w' ⟨rfl, ⟨nd, rfl⟩⟩; refine ⟨_, rfl, ?_⟩))
     go_ret
     exact ⟨by first | rfl | (simp [errW_none, errW_some] <;> rfl) | (simp [*, errW_none, errW_some] <;> rfl), by repeat (first | (with_reducible first | exact HB.out | apply ba_ | apply pw_below_drewN | apply bd_ | refine bs_ ?_ GE290.out | refine bs_ ?_ GE291.out) | exact HB.out)⟩
   ·
    replace c8 := Bool.eq_false_iff.mpr c8
    subst c8
    have H1 : (some false) = some r := by rw [if_neg (show ¬ (false = true) by decide)] at H; exact H
    clear H
    have H := H1
    clear H1
    obtain rfl := Option.some.inj H
    go_enter Try.func10, Try.ntmps10
    go_wp2_with (first | ((with_reducible refine gate_dst (N := 2) rfl ?_); refine box_event ?hg (N := 2) ?hd (cs := #[.slice A0_0 l0_0.length c0_0, .slice A0_1 l0_1.length c0_1, .slice A0_2 l0_2.length c0_2, .slice A0_3 l0_3.length c0_3]) (t := 28) ?hr ?_; (case hd => rfl); (case hg => rfl); (case hr => first | (go_simp; done) | (go_simp; rfl)); intro gb290 hg w21 hbox hb; have n0_ := am_ (bp_ (by repeat (first | (with_reducible first | exact HB.out | apply ba_ | apply pw_below_drewN | apply bd_) | exact HB.out)) hb); have n1_ := am_ (hbox); have n2_ := am_ ((by rw [hg]; exact (bz_ (by repeat (first | (with_reducible first | exact HB.out | apply ba_ | apply pw_below_drewN | apply bd_) | exact HB.out))) : w.heap.size ≤ gb290)); have n3_ := am_ ((by rw [hg]; exact (bz_ (by repeat (first | (with_reducible first | exact HB.out | apply ba_ | apply pw_below_drewN | apply bd_) | exact HB.out))) : w.heap.size ≤ gb290)); clear HB; have HB := n0_; have BK290 := n1_; have GW290 := n2_; have GE290 := n3_; clear n0_ n1_ n2_ n3_; clear hb hbox hg) | ((with_reducible refine gate_dst (N := 3) rfl ?_); refine box_event ?hg (N := 3) ?hd (cs := #[.slice A1_0 l1_0.length c1_0, .slice A1_1 l1_1.length c1_1, .slice A1_2 l1_2.length c1_2, .slice A1_3 l1_3.length c1_3]) (t := 28) ?hr ?_; (case hd => rfl); (case hg => rfl); (case hr => first | (go_simp; done) | (go_simp; rfl)); intro gb291 hg w22 hbox hb; have n0_ := am_ (kb_ (g := gb290) (o := .cells #[.slice A0_0 l0_0.length c0_0, .slice A0_1 l0_1.length c0_1, .slice A0_2 l0_2.length c0_2, .slice A0_3 l0_3.length c0_3] 28 (0, 0)) (by (with_reducible repeat (first | refine kn_ ?_ _ | refine kd_ ?_ | refine ka_ ?_ _)); exact BK290.out) hb); have n1_ := am_ (bp_ (by repeat (first | (with_reducible first | exact HB.out | apply ba_ | apply pw_below_drewN | apply bd_ | refine bs_ ?_ GE290.out) | exact HB.out)) hb); have n2_ := am_ (hbox); have n3_ := am_ ((by rw [hg]; exact (bz_ (by repeat (first | (with_reducible first | exact HB.out | apply ba_ | apply pw_below_drewN | apply bd_ | refine bs_ ?_ GE290.out) | exact HB.out))) : w.heap.size ≤ gb291)); have n4_ := am_ ((by rw [hg]; exact (bz_ (by repeat (first | (with_reducible first | exact HB.out | apply ba_ | apply pw_below_drewN | apply bd_ | refine bs_ ?_ GE290.out) | exact HB.out))) : w.heap.size ≤ gb291)); have n5_ := am_ ((by rw [hg]; exact Nat.ne_of_lt (blk_lt (g := gb290) (o := .cells #[.slice A0_0 l0_0.length c0_0, .slice A0_1 l0_1.length c0_1, .slice A0_2 l0_2.length c0_2, .slice A0_3 l0_3.length c0_3] 28 (0, 0)) (by (with_reducible repeat (first | refine kn_ ?_ _ | refine kd_ ?_ | refine ka_ ?_ _)); exact BK290.out)) : gb290 ≠ gb291)); have n6_ := am_ ((by rw [hg]; exact Nat.ne_of_gt (blk_lt (g := gb290) (o := .cells #[.slice A0_0 l0_0.length c0_0, .slice A0_1 l0_1.length c0_1, .slice A0_2 l0_2.length c0_2, .slice A0_3 l0_3.length c0_3] 28 (0, 0)) (by (with_reducible repeat (first | refine kn_ ?_ _ | refine kd_ ?_ | refine ka_ ?_ _)); exact BK290.out)) : gb291 ≠ gb290)); clear BK290; clear HB; have BK290 := n0_; have HB := n1_; have BK291 := n2_; have GW291 := n3_; have GE291 := n4_; have NB290_291 := n5_; have NB291_290 := n6_; clear n0_ n1_ n2_ n3_ n4_ n5_ n6_; clear hb hbox hg; have hnb23 := NB290_291.out; have hnc23 := NB291_290.out; have hcz24_0 : w22.cell? ⟨gb290, 0, none⟩ = some (.slice A0_0 l0_0.length c0_0) := (kc_ BK290.out 0).trans rfl; have hcz24_1 : w22.cell? ⟨gb290, 1, none⟩ = some (.slice A0_1 l0_1.length c0_1) := (kc_ BK290.out 1).trans rfl; have hcz24_2 : w22.cell? ⟨gb290, 2, none⟩ = some (.slice A0_2 l0_2.length c0_2) := (kc_ BK290.out 2).trans rfl; have hcz24_3 : w22.cell? ⟨gb290, 3, none⟩ = some (.slice A0_3 l0_3.length c0_3) := (kc_ BK290.out 3).trans rfl; have hfz24_0 := kf_ BK290.out 0; have hfz24_1 := kf_ BK290.out 1; have hfz24_2 := kf_ BK290.out 2; have hfz24_3 := kf_ BK290.out 3; have hcz25_0 : w22.cell? ⟨gb291, 0, none⟩ = some (.slice A1_0 l1_0.length c1_0) := (kc_ BK291.out 0).trans rfl; have hcz25_1 : w22.cell? ⟨gb291, 1, none⟩ = some (.slice A1_1 l1_1.length c1_1) := (kc_ BK291.out 1).trans rfl; have hcz25_2 : w22.cell? ⟨gb291, 2, none⟩ = some (.slice A1_2 l1_2.length c1_2) := (kc_ BK291.out 2).trans rfl; have hcz25_3 : w22.cell? ⟨gb291, 3, none⟩ = some (.slice A1_3 l1_3.length c1_3) := (kc_ BK291.out 3).trans rfl; have hfz25_0 := kf_ BK291.out 0; have hfz25_1 := kf_ BK291.out 1; have hfz25_2 := kf_ BK291.out 2; have hfz25_3 := kf_ BK291.out 3) | ((with_reducible refine gc_ (f := 9) rfl ?_); refine goesL_ (some 9) rfl rfl Try.func9 (by kernel_rfl) rfl #[.slice A0_0 l0_0.length c0_0, .slice A1_0 l1_0.length c1_0] rfl (by (try simp only [List.map_toArray, List.map_cons, List.map_nil]); first | done | rfl | (simp only [List.length_drop, List.length_take]; rfl)) ?_; (with_reducible refine (laws_eqIntS.calls k _ _ l0_0 _ _ l1_0 true _ ?side1 ?side2 ?side3 ?side4 A3.out).mono ?_); (case side1 => repeat (first | exact (cb_ HR0_0.out HB.out) | (with_reducible refine ca_ ?_ _) | (with_reducible refine cn_ ?_ _) | (with_reducible refine cd_ ?_))); (case side2 => exact HC0_0.out); (case side3 => repeat (first | exact (cb_ HR1_0.out HB.out) | (with_reducible refine ca_ ?_ _) | (with_reducible refine cn_ ?_ _) | (with_reducible refine cd_ ?_))); (case side4 => exact HC1_0.out); rintro e w' ⟨rfl, ⟨nd, rfl⟩⟩; refine ⟨_, rfl, ?_⟩) | ((with_reducible refine gc_ (f := 9) rfl ?_); refine goesL_ (some 15) rfl rfl Try.func9 (by kernel_rfl) rfl #[.slice A0_1 l0_1.length c0_1, .slice A1_1 l1_1.length c1_1] rfl (by (try simp only [List.map_toArray, List.map_cons, List.map_nil]); first | done | rfl | (simp only [List.length_drop, List.length_take]; rfl)) ?_; (with_reducible refine (laws_eqIntS.calls k _ _ l0_1 _ _ l1_1 true _ ?side1 ?side2 ?side3 ?side4 A5.out).mono ?_); (case side1 => repeat (first | exact (cb_ HR0_1.out (by repeat (first | (with_reducible first | exact HB.out | apply ba_ | apply pw_below_drewN | apply bd_ | refine bs_ ?_ GE290.out | refine bs_ ?_ GE291.out) | exact HB.out))) | (with_reducible refine ca_ ?_ _) | (with_reducible refine cn_ ?_ _) | (with_reducible refine cd_ ?_))); (case side2 => exact HC0_1.out); (case side3 => repeat (first | exact (cb_ HR1_1.out (by repeat (first | (with_reducible first | exact HB.out | apply ba_ | apply pw_below_drewN | apply bd_ | refine bs_ ?_ GE290.out | refine bs_ ?_ GE291.out) | exact HB.out))) | (with_reducible refine ca_ ?_ _) | (with_reducible refine cn_ ?_ _) | (with_reducible refine cd_ ?_))); (case side4 => exact HC1_1.out); rintro e w' ⟨rfl, ⟨nd, rfl⟩⟩; refine ⟨_, rfl, ?_⟩) | ((with_reducible refine gc_ (f := 9) rfl ?_); refine goesL_ (some 21) rfl rfl Try.func9 (by kernel_rfl) rfl #[.slice A0_2 l0_2.length c0_2, .slice A1_2 l1_2.length c1_2] rfl (by (try simp only [List.map_toArray, List.map_cons, List.map_nil]); first | done | rfl | (simp only [List.length_drop, List.length_take]; rfl)) ?_; (with_reducible refine (laws_eqIntS.calls k _ _ l0_2 _ _ l1_2 false _ ?side1 ?side2 ?side3 ?side4 A7.out).mono ?_); (case side1 => repeat (first | exact (cb_ HR0_2.out (by repeat (first | (with_reducible first | exact HB.out | apply ba_ | apply pw_below_drewN | apply bd_ | refine bs_ ?_ GE290.out | refine bs_ ?_ GE291.out) | exact HB.out))) | (with_reducible refine ca_ ?_ _) | (with_reducible refine cn_ ?_ _) | (with_reducible refine cd_ ?_))); (case side2 => exact HC0_2.out); (case side3 => repeat (first | exact (cb_ HR1_2.out (by repeat (first | (with_reducible first | exact HB.out | apply ba_ | apply pw_below_drewN | apply bd_ | refine bs_ ?_ GE290.out | refine bs_ ?_ GE291.out) | exact HB.out))) | (with_reducible refine ca_ ?_ _) | (with_reducible refine cn_ ?_ _) | (with_reducible refine cd_ ?_))); (case side4 => exact HC1_2.out); rintro e w' ⟨rfl, ⟨nd, rfl⟩⟩; refine ⟨_, rfl, ?_⟩))
    go_ret
    exact ⟨by first | rfl | (simp [errW_none, errW_some] <;> rfl) | (simp [*, errW_none, errW_some] <;> rfl), by repeat (first | (with_reducible first | exact HB.out | apply ba_ | apply pw_below_drewN | apply bd_ | refine bs_ ?_ GE290.out | refine bs_ ?_ GE291.out) | exact HB.out)⟩
  ·
   replace c6 := Bool.eq_false_iff.mpr c6
   subst c6
   have H1 : (some false) = some r := by rw [if_neg (show ¬ (false = true) by decide)] at H; exact H
   clear H
   have H := H1
   clear H1
   obtain rfl := Option.some.inj H
   go_enter Try.func10, Try.ntmps10
   go_wp2_with (first | ((with_reducible refine gate_dst (N := 2) rfl ?_); refine box_event ?hg (N := 2) ?hd (cs := #[.slice A0_0 l0_0.length c0_0, .slice A0_1 l0_1.length c0_1, .slice A0_2 l0_2.length c0_2, .slice A0_3 l0_3.length c0_3]) (t := 28) ?hr ?_; (case hd => rfl); (case hg => rfl); (case hr => first | (go_simp; done) | (go_simp; rfl)); intro gb290 hg w26 hbox hb; have n0_ := am_ (bp_ (by repeat (first | (with_reducible first | exact HB.out | apply ba_ | apply pw_below_drewN | apply bd_) | exact HB.out)) hb); have n1_ := am_ (hbox); have n2_ := am_ ((by rw [hg]; exact (bz_ (by repeat (first | (with_reducible first | exact HB.out | apply ba_ | apply pw_below_drewN | apply bd_) | exact HB.out))) : w.heap.size ≤ gb290)); have n3_ := am_ ((by rw [hg]; exact (bz_ (by repeat (first | (with_reducible first | exact HB.out | apply ba_ | apply pw_below_drewN | apply bd_) | exact HB.out))) : w.heap.size ≤ gb290)); clear HB; have HB := n0_; have BK290 := n1_; have GW290 := n2_; have GE290 := n3_; clear n0_ n1_ n2_ n3_; clear hb hbox hg) | ((with_reducible refine gate_dst (N := 3) rfl ?_); refine box_event ?hg (N := 3) ?hd (cs := #[.slice A1_0 l1_0.length c1_0, .slice A1_1 l1_1.length c1_1, .slice A1_2 l1_2.length c1_2, .slice A1_3 l1_3.length c1_3]) (t := 28) ?hr ?_; (case hd => rfl); (case hg => rfl); (case hr => first | (go_simp; done) | (go_simp; rfl)); intro gb291 hg w27 hbox hb; have n0_ := am_ (kb_ (g := gb290) (o := .cells #[.slice A0_0 l0_0.length c0_0, .slice A0_1 l0_1.length c0_1, .slice A0_2 l0_2.length c0_2, .slice A0_3 l0_3.length c0_3] 28 (0, 0)) (by (with_reducible repeat (first | refine kn_ ?_ _ | refine kd_ ?_ | refine ka_ ?_ _)); exact BK290.out) hb); have n1_ := am_ (bp_ (by repeat (first | (with_reducible first | exact HB.out | apply ba_ | apply pw_below_drewN | apply bd_ | refine bs_ ?_ GE290.out) | exact HB.out)) hb); have n2_ := am_ (hbox); have n3_ := am_ ((by rw [hg]; exact (bz_ (by repeat (first | (with_reducible first | exact HB.out | apply ba_ | apply pw_below_drewN | apply bd_ | refine bs_ ?_ GE290.out) | exact HB.out))) : w.heap.size ≤ gb291)); have n4_ := am_ ((by rw [hg]; exact (bz_ (by repeat (first | (with_reducible first | exact HB.out | apply ba_ | apply pw_below_drewN | apply bd_ | refine bs_ ?_ GE290.out) | exact HB.out))) : w.heap.size ≤ gb291)); have n5_ := am_ ((by rw [hg]; exact Nat.ne_of_lt (blk_lt (g := gb290) (o := .cells #[.slice A0_0 l0_0.length c0_0, .slice A0_1 l0_1.length c0_1, .slice A0_2 l0_2.length c0_2, .slice A0_3 l0_3.length c0_3] 28 (0, 0)) (by (with_reducible repeat (first | refine kn_ ?_ _ | refine kd_ ?_ | refine ka_ ?_ _)); exact BK290.out)) : gb290 ≠ gb291)); have n6_ := am_ ((by rw [hg]; exact Nat.ne_of_gt (blk_lt (g := gb290) (o := .cells #[.slice A0_0 l0_0.length c0_0, .slice A0_1 l0_1.length c0_1, .slice A0_2 l0_2.length c0_2, .slice A0_3 l0_3.length c0_3] 28 (0, 0)) (by (with_reducible repeat (first | refine kn_ ?_ _ | refine kd_ ?_ | refine ka_ ?_ _)); exact BK290.out)) : gb291 ≠ gb290)); clear BK290; clear HB; have BK290 := n0_; have HB := n1_; have BK291 := n2_; have GW291 := n3_; have GE291 := n4_; have NB290_291 := n5_; have NB291_290 := n6_; clear n0_ n1_ n2_ n3_ n4_ n5_ n6_; clear hb hbox hg; have hnb28 := NB290_291.out; have hnc28 := NB291_290.out; have hcz29_0 : w27.cell? ⟨gb290, 0, none⟩ = some (.slice A0_0 l0_0.length c0_0) := (kc_ BK290.out 0).trans rfl; have hcz29_1 : w27.cell? ⟨gb290, 1, none⟩ = some (.slice A0_1 l0_1.length c0_1) := (kc_ BK290.out 1).trans rfl; have hcz29_2 : w27.cell? ⟨gb290, 2, none⟩ = some (.slice A0_2 l0_2.length c0_2) := (kc_ BK290.out 2).trans rfl; have hcz29_3 : w27.cell? ⟨gb290, 3, none⟩ = some (.slice A0_3 l0_3.length c0_3) := (kc_ BK290.out 3).trans rfl; have hfz29_0 := kf_ BK290.out 0; have hfz29_1 := kf_ BK290.out 1; have hfz29_2 := kf_ BK290.out 2; have hfz29_3 := kf_ BK290.out 3; have hcz30_0 : w27.cell? ⟨gb291, 0, none⟩ = some (.slice A1_0 l1_0.length c1_0) := (kc_ BK291.out 0).trans rfl; have hcz30_1 : w27.cell? ⟨gb291, 1, none⟩ = some (.slice A1_1 l1_1.length c1_1) := (kc_ BK291.out 1).trans rfl; have hcz30_2 : w27.cell? ⟨gb291, 2, none⟩ = some (.slice A1_2 l1_2.length c1_2) := (kc_ BK291.out 2).trans rfl; have hcz30_3 : w27.cell? ⟨gb291, 3, none⟩ = some (.slice A1_3 l1_3.length c1_3) := (kc_ BK291.out 3).trans rfl; have hfz30_0 := kf_ BK291.out 0; have hfz30_1 := kf_ BK291.out 1; have hfz30_2 := kf_ BK291.out 2; have hfz30_3 := kf_ BK291.out 3) | ((with_reducible refine gc_ (f := 9) rfl ?_); refine goesL_ (some 9) rfl rfl Try.func9 (by kernel_rfl) rfl #[.slice A0_0 l0_0.length c0_0, .slice A1_0 l1_0.length c1_0] rfl (by (try simp only [List.map_toArray, List.map_cons, List.map_nil]); first | done | rfl | (simp only [List.length_drop, List.length_take]; rfl)) ?_; (with_reducible refine (laws_eqIntS.calls k _ _ l0_0 _ _ l1_0 true _ ?side1 ?side2 ?side3 ?side4 A3.out).mono ?_); (case side1 => repeat (first | exact (cb_ HR0_0.out HB.out) | (with_reducible refine ca_ ?_ _) | (with_reducible refine cn_ ?_ _) | (with_reducible refine cd_ ?_))); (case side2 => exact HC0_0.out); (case side3 => repeat (first | exact (cb_ HR1_0.out HB.out) | (with_reducible refine ca_ ?_ _) | (with_reducible refine cn_ ?_ _) | (with_reducible refine cd_ ?_))); (case side4 => exact HC1_0.out); rintro e w' ⟨rfl, ⟨nd, rfl⟩⟩; refine ⟨_, rfl, ?_⟩) | ((with_reducible refine gc_ (f := 9) rfl ?_); refine goesL_ (some 15) rfl rfl Try.func9 (by kernel_rfl) rfl #[.slice A0_1 l0_1.length c0_1, .slice A1_1 l1_1.length c1_1] rfl (by (try simp only [List.map_toArray, List.map_cons, List.map_nil]); first | done | rfl | (simp only [List.length_drop, List.length_take]; rfl)) ?_; (with_reducible refine (laws_eqIntS.calls k _ _ l0_1 _ _ l1_1 false _ ?side1 ?side2 ?side3 ?side4 A5.out).mono ?_); (case side1 => repeat (first | exact (cb_ HR0_1.out (by repeat (first | (with_reducible first | exact HB.out | apply ba_ | apply pw_below_drewN | apply bd_ | refine bs_ ?_ GE290.out | refine bs_ ?_ GE291.out) | exact HB.out))) | (with_reducible refine ca_ ?_ _) | (with_reducible refine cn_ ?_ _) | (with_reducible refine cd_ ?_))); (case side2 => exact HC0_1.out); (case side3 => repeat (first | exact (cb_ HR1_1.out (by repeat (first | (with_reducible first | exact HB.out | apply ba_ | apply pw_below_drewN | apply bd_ | refine bs_ ?_ GE290.out | refine bs_ ?_ GE291.out) | exact HB.out))) | (with_reducible refine ca_ ?_ _) | (with_reducible refine cn_ ?_ _) | (with_reducible refine cd_ ?_))); (case side4 => exact HC1_1.out); rintro e w' ⟨rfl, ⟨nd, rfl⟩⟩; refine ⟨_, rfl, ?_⟩))
   go_ret
   exact ⟨by first | rfl | (simp [errW_none, errW_some] <;> rfl) | (simp [*, errW_none, errW_some] <;> rfl), by repeat (first | (with_reducible first | exact HB.out | apply ba_ | apply pw_below_drewN | apply bd_ | refine bs_ ?_ GE290.out | refine bs_ ?_ GE291.out) | exact HB.out)⟩
 ·
  replace c4 := Bool.eq_false_iff.mpr c4
  subst c4
  have H1 : (some false) = some r := by rw [if_neg (show ¬ (false = true) by decide)] at H; exact H
  clear H
  have H := H1
  clear H1
  obtain rfl := Option.some.inj H
  go_enter Try.func10, Try.ntmps10
  go_wp2_with (first | ((with_reducible refine gate_dst (N := 2) rfl ?_); refine box_event ?hg (N := 2) ?hd (cs := #[.slice A0_0 l0_0.length c0_0, .slice A0_1 l0_1.length c0_1, .slice A0_2 l0_2.length c0_2, .slice A0_3 l0_3.length c0_3]) (t := 28) ?hr ?_; (case hd => rfl); (case hg => rfl); (case hr => first | (go_simp; done) | (go_simp; rfl)); intro gb290 hg w31 hbox hb; have n0_ := am_ (bp_ (by repeat (first | (with_reducible first | exact HB.out | apply ba_ | apply pw_below_drewN | apply bd_) | exact HB.out)) hb); have n1_ := am_ (hbox); have n2_ := am_ ((by rw [hg]; exact (bz_ (by repeat (first | (with_reducible first | exact HB.out | apply ba_ | apply pw_below_drewN | apply bd_) | exact HB.out))) : w.heap.size ≤ gb290)); have n3_ := am_ ((by rw [hg]; exact (bz_ (by repeat (first | (with_reducible first | exact HB.out | apply ba_ | apply pw_below_drewN | apply bd_) | exact HB.out))) : w.heap.size ≤ gb290)); clear HB; have HB := n0_; have BK290 := n1_; have GW290 := n2_; have GE290 := n3_; clear n0_ n1_ n2_ n3_; clear hb hbox hg) | ((with_reducible refine gate_dst (N := 3) rfl ?_); refine box_event ?hg (N := 3) ?hd (cs := #[.slice A1_0 l1_0.length c1_0, .slice A1_1 l1_1.length c1_1, .slice A1_2 l1_2.length c1_2, .slice A1_3 l1_3.length c1_3]) (t := 28) ?hr ?_; (case hd => rfl); (case hg => rfl); (case hr => first | (go_simp; done) | (go_simp; rfl)); intro gb291 hg w32 hbox hb; have n0_ := am_ (kb_ (g := gb290) (o := .cells #[.slice A0_0 l0_0.length c0_0, .slice A0_1 l0_1.length c0_1, .slice A0_2 l0_2.length c0_2, .slice A0_3 l0_3.length c0_3] 28 (0, 0)) (by (with_reducible repeat (first | refine kn_ ?_ _ | refine kd_ ?_ | refine ka_ ?_ _)); exact BK290.out) hb); have n1_ := am_ (bp_ (by repeat (first | (with_reducible first | exact HB.out | apply ba_ | apply pw_below_drewN | apply bd_ | refine bs_ ?_ GE290.out) | exact HB.out)) hb); have n2_ := am_ (hbox); have n3_ := am_ ((by rw [hg]; exact (bz_ (by repeat (first | (with_reducible first | exact HB.out | apply ba_ | apply pw_below_drewN | apply bd_ | refine bs_ ?_ GE290.out) | exact HB.out))) : w.heap.size ≤ gb291)); have n4_ := am_ ((by rw [hg]; exact (bz_ (by repeat (first | (with_reducible first | exact HB.out | apply ba_ | apply pw_below_drewN | apply bd_ | refine bs_ ?_ GE290.out) | exact HB.out))) : w.heap.size ≤ gb291)); have n5_ := am_ ((by rw [hg]; exact Nat.ne_of_lt (blk_lt (g := gb290) (o := .cells #[.slice A0_0 l0_0.length c0_0, .slice A0_1 l0_1.length c0_1, .slice A0_2 l0_2.length c0_2, .slice A0_3 l0_3.length c0_3] 28 (0, 0)) (by (with_reducible repeat (first | refine kn_ ?_ _ | refine kd_ ?_ | refine ka_ ?_ _)); exact BK290.out)) : gb290 ≠ gb291)); have n6_ := am_ ((by rw [hg]; exact Nat.ne_of_gt (blk_lt (g := gb290) (o := .cells #[.slice A0_0 l0_0.length c0_0, .slice A0_1 l0_1.length c0_1, .slice A0_2 l0_2.length c0_2, .slice A0_3 l0_3.length c0_3] 28 (0, 0)) (by (with_reducible repeat (first | refine kn_ ?_ _ | refine kd_ ?_ | refine ka_ ?_ _)); exact BK290.out)) : gb291 ≠ gb290)); clear BK290; clear HB; have BK290 := n0_; have HB := n1_; have BK291 := n2_; have GW291 := n3_; have GE291 := n4_; have NB290_291 := n5_; have NB291_290 := n6_; clear n0_ n1_ n2_ n3_ n4_ n5_ n6_; clear hb hbox hg; have hnb33 := NB290_291.out; have hnc33 := NB291_290.out; have hcz34_0 : w32.cell? ⟨gb290, 0, none⟩ = some (.slice A0_0 l0_0.length c0_0) := (kc_ BK290.out 0).trans rfl; have hcz34_1 : w32.cell? ⟨gb290, 1, none⟩ = some (.slice A0_1 l0_1.length c0_1) := (kc_ BK290.out 1).trans rfl; have hcz34_2 : w32.cell? ⟨gb290, 2, none⟩ = some (.slice A0_2 l0_2.length c0_2) := (kc_ BK290.out 2).trans rfl; have hcz34_3 : w32.cell? ⟨gb290, 3, none⟩ = some (.slice A0_3 l0_3.length c0_3) := (kc_ BK290.out 3).trans rfl; have hfz34_0 := kf_ BK290.out 0; have hfz34_1 := kf_ BK290.out 1; have hfz34_2 := kf_ BK290.out 2; have hfz34_3 := kf_ BK290.out 3; have hcz35_0 : w32.cell? ⟨gb291, 0, none⟩ = some (.slice A1_0 l1_0.length c1_0) := (kc_ BK291.out 0).trans rfl; have hcz35_1 : w32.cell? ⟨gb291, 1, none⟩ = some (.slice A1_1 l1_1.length c1_1) := (kc_ BK291.out 1).trans rfl; have hcz35_2 : w32.cell? ⟨gb291, 2, none⟩ = some (.slice A1_2 l1_2.length c1_2) := (kc_ BK291.out 2).trans rfl; have hcz35_3 : w32.cell? ⟨gb291, 3, none⟩ = some (.slice A1_3 l1_3.length c1_3) := (kc_ BK291.out 3).trans rfl; have hfz35_0 := kf_ BK291.out 0; have hfz35_1 := kf_ BK291.out 1; have hfz35_2 := kf_ BK291.out 2; have hfz35_3 := kf_ BK291.out 3) | ((with_reducible refine gc_ (f := 9) rfl ?_); refine goesL_ (some 9) rfl rfl Try.func9 (by kernel_rfl) rfl #[.slice A0_0 l0_0.length c0_0, .slice A1_0 l1_0.length c1_0] rfl (by (try simp only [List.map_toArray, List.map_cons, List.map_nil]); first | done | rfl | (simp only [List.length_drop, List.length_take]; rfl)) ?_; (with_reducible refine (laws_eqIntS.calls k _ _ l0_0 _ _ l1_0 false _ ?side1 ?side2 ?side3 ?side4 A3.out).mono ?_); (case side1 => repeat (first | exact (cb_ HR0_0.out HB.out) | (with_reducible refine ca_ ?_ _) | (with_reducible refine cn_ ?_ _) | (with_reducible refine cd_ ?_))); (case side2 => exact HC0_0.out); (case side3 => repeat (first | exact (cb_ HR1_0.out HB.out) | (with_reducible refine ca_ ?_ _) | (with_reducible refine cn_ ?_ _) | (with_reducible refine cd_ ?_))); (case side4 => exact HC1_0.out); rintro e w' ⟨rfl, ⟨nd, rfl⟩⟩; refine ⟨_, rfl, ?_⟩))
  go_ret
  exact ⟨by first | rfl | (simp [errW_none, errW_some] <;> rfl) | (simp [*, errW_none, errW_some] <;> rfl), by repeat (first | (with_reducible first | exact HB.out | apply ba_ | apply pw_below_drewN | apply bd_ | refine bs_ ?_ GE290.out | refine bs_ ?_ GE291.out) | exact HB.out)⟩

end Go.Proofs.Ytaejjkgbcajhoaa.PFnExactRegularPlan
