-- Made by wip/xprint.py: the print of the kit, called over a changed copy of what it reads.
-- PRINTED by print.py (a twelfth state) out of the translation. Not trusted: Lean checks it.
import Derived.Deep.RegionHeld3
import Derived.Deep.RegionLawGrows
import Derived.Deep.AppendLies
import Derived.Laws.Rows
import Derived.Test.YtknnnkkchfcjkaaDyn
import Derived.Test.YtknnnkkchfcjkaaXFnBudgetsx0
import Derived.Test.YtknnnkkchfcjkaaXFnBudgetsx1
import Derived.Test.YtknnnkkchfcjkaaXFnBudgetsx3
import Derived.Test.YtknnnkkchfcjkaaXFnBudgetsx4
import Derived.Test.YtknnnkkchfcjkaaXFnBudgetsx5
namespace Go.Proofs.Ytknnnkkchfcjkaa.PFnBudgets
open Go.Proofs.Ytknnnkkchfcjkaa.Dyn
open Go.Proofs.YtknnnkkchfcjkaaW.PrintWords.Aside0 renaming mk → am_
open Go.Proofs.YtknnnkkchfcjkaaW.PrintWords renaming below_drew1 → bd_, below_alloc → ba_, below_set → bs_, below_size → bz_, below_step → bp_, blk_frozen → kf_, blk_cell → kc_, blk_below → kb_, gate_callee → gc_
open Go.Proofs.YtknnnkkchfcjkaaW.PrintWords.Kd renaming R_alloc → ra_, R_drewN → rn_, R_drew → rd_, R_below → rb_, R_reads' → rr_, R_slice → rs_, C_alloc → ca_, C_drewN → cn_, C_drew → cd_, C_below → cb_, S_alloc → sa_, S_drewN → sn_, S_drew → sd_
attribute [local go_sem] run_mf events_mf
open Go.RowKit Go.Proofs.YtknnnkkchfcjkaaW.PrintWords Go.Proofs.YtknnnkkchfcjkaaW.PrintLast Go.Proofs.YtknnnkkchfcjkaaW.PrintMore
attribute [local go_sem] max2_int min2_int max_two min_two max_three min_three max_four min_four   -- for this text's walks alone
set_option linter.unusedVariables false
set_option linter.unusedSimpArgs false

/-! ### spec_l5Short: function 46 -/
def spec_l5Short.l0 : Nat → List Int → Int → Int → Int → Option (Int)
 | 0, _, _, _, _ => none
 | k + 1, x0, x1, x5, x6 => if x6 < (x0.length : Int) then (if 0 ≤ x6 then ((spec_l1Most.f 0 (wrap64 (x6 - x1))).bind fun t320 => (spec_l5Short.l0 k x0 x1 (wrap64 (x5 + (wrap64 ((rd x0 x6) * t320)))) (wrap64 (x6 + 1)))) else (none)) else (some x5)
def spec_l5Short.f (k : Nat) (l0 : List Int) (a1 : Int) : Option (Int) := spec_l5Short.l0 k l0 a1 0 0
theorem spec_l5Short.mono_l : ∀ k, (∀ y0 y1 y2 y3, LeO (spec_l5Short.l0 k y0 y1 y2 y3) (spec_l5Short.l0 (k + 1) y0 y1 y2 y3))
 | 0 => fun _ _ _ _ r h => by simp [spec_l5Short.l0] at h
 | k + 1 => by
  have ih0 := spec_l5Short.mono_l k
  ·
   intro y0 y1 y2 y3
   unfold spec_l5Short.l0
   repeat' first
   | (with_reducible exact ih0 _ _ _ _)
   | (with_reducible exact LeO.refl _)
   | (with_reducible exact LeO.none _)
   | (with_reducible refine LeO.ite ?_ ?_)
   | (with_reducible refine LeO.bind ?_ (fun _ => ?_))
   | exact ih0 _ _ _ _
   | exact LeO.none _
   | refine LeO.ite ?_ ?_
   | refine LeO.bind ?_ (fun _ => ?_)
theorem spec_l5Short.mono : ∀ a0 a1 k, LeO (spec_l5Short.f k a0 a1) (spec_l5Short.f (k + 1) a0 a1) := by
 intro a0 a1 k
 have ih0 := spec_l5Short.mono_l k
 unfold spec_l5Short.f
 repeat' first
   | (with_reducible exact ih0 _ _ _ _)
   | (with_reducible exact LeO.refl _)
   | (with_reducible exact LeO.none _)
   | (with_reducible refine LeO.ite ?_ ?_)
   | (with_reducible refine LeO.bind ?_ (fun _ => ?_))
   | exact ih0 _ _ _ _
   | exact LeO.none _
   | refine LeO.ite ?_ ?_
   | refine LeO.bind ?_ (fun _ => ?_)
set_option maxHeartbeats 8000000 in
set_option maxRecDepth 100000 in
theorem spec_l5Short.calls (k : Nat) (A0 : Option Addr) (c0 : Nat) (l0 : List Int) (a1 : Int) (r : Int) (w : World) (hr0 : Kd.C (Kd.int .i64) w A0 l0.length l0) (hc0 : l0.length ≤ c0) (h : spec_l5Short.f k l0 a1 = some r) :
  Calls Try.prog 46 #[.slice A0 l0.length c0, .int .i64 a1] w fun e w' => e = .returned (.int .i64 r) ∧ Drawn0 w w' := by
 have HR0 := am_ hr0
 have HC0 := am_ hc0
 clear hr0 hc0
 have H : (spec_l5Short.l0 k l0 a1 0 0) = some r := h
 clear h
 have H' := am_ H
 clear H
 go_enter Try.func46, Try.ntmps46
 go_wp2
 repeat (go_quiet (fail); try go_wp2)
 go_loopg [5, 6] k (fun kq v5 v6 w' => ∃ (x5_1 : Int) (x6_1 : Int), v5 = .int .i64 x5_1 ∧ v6 = .int .i64 x6_1 ∧ Aside0 (spec_l5Short.l0 kq l0 a1 x5_1 x6_1 = some r) ∧ Aside0 (kq ≤ k) ∧ Drawn0 w w')
 case atStart => exact ⟨(0), (0), (by first | rfl | (simp; done) | (simp [*]; done)), (by first | rfl | (simp; done) | (simp [*]; done)), H', ⟨Nat.le_refl _⟩, by repeat (first | exact Drawn0.refl _ | apply Drawn0.step)⟩
 case round =>
  clear H'
  try clear p2
  obtain ⟨x5_1, x6_1, rfl, rfl, HA, HK1, ⟨m1, rfl⟩⟩ := hrel
  cases gk with
  | zero => exact absurd HA.out (by simp [spec_l5Short.l0])
  | succ k1 =>
   have H := HA.out
   clear HA
   simp only [spec_l5Short.l0] at H
   by_cases c3 : x6_1 < (l0.length : Int)
   ·
    rw [if_pos c3] at H
    have c3b0 : decide (x6_1 < (l0.length : Int)) = true := decide_eq_true c3
    clear c3
    by_cases c4 : 0 ≤ x6_1
    ·
     rw [if_pos c4] at H
     have c4b0 : decide (0 ≤ x6_1) = true := decide_eq_true c4
     clear c4
     replace H := Option.bind_eq_some_iff.mp H
     obtain ⟨t320, A50, H⟩ := H
     replace H : (spec_l5Short.l0 k1 l0 a1 (wrap64 (x5_1 + (wrap64 ((rd l0 x6_1) * t320)))) (wrap64 (x6_1 + 1))) = some r := H
     have A5 := am_ A50
     clear A50
     have H' := am_ H
     clear H
     have p319 : 0 ≤ (x6_1 : Int) := of_decide_eq_true (by first | (with_reducible assumption) | assumption)
     have q319 : x6_1 < (l0.length : Int) := of_decide_eq_true (by first | (with_reducible assumption) | assumption)
     obtain ⟨ad319, e319, hx319_0⟩ := Kd.at_int HR0.out x6_1 p319 q319
     cases e319
     replace p319 := eq_true p319
     replace q319 := eq_true q319
     go_wp2_with (first | (go_at_call 50; (with_reducible refine (spec_l1Most.calls 0 (wrap64 (x6_1 - a1)) t320 _ A5.out).mono ?_); rintro e w' ⟨rfl, ⟨nd, rfl⟩⟩; (try first | exact ⟨rfl, _, World.drewN_drewN _ _ _⟩ | exact ⟨rfl, _, Eq.trans (World.drewN_drewN _ _ _) (congrArg (World.drewN _) (Nat.add_assoc _ _ _))⟩)))
     repeat (go_quiet (first | (go_at_call 50; (with_reducible refine (spec_l1Most.calls 0 (wrap64 (x6_1 - a1)) t320 _ A5.out).mono ?_); rintro e w' ⟨rfl, ⟨nd, rfl⟩⟩; (try first | exact ⟨rfl, _, World.drewN_drewN _ _ _⟩ | exact ⟨rfl, _, Eq.trans (World.drewN_drewN _ _ _) (congrArg (World.drewN _) (Nat.add_assoc _ _ _))⟩))); try go_wp2_with (first | (go_at_call 50; (with_reducible refine (spec_l1Most.calls 0 (wrap64 (x6_1 - a1)) t320 _ A5.out).mono ?_); rintro e w' ⟨rfl, ⟨nd, rfl⟩⟩; (try first | exact ⟨rfl, _, World.drewN_drewN _ _ _⟩ | exact ⟨rfl, _, Eq.trans (World.drewN_drewN _ _ _) (congrArg (World.drewN _) (Nat.add_assoc _ _ _))⟩))))
     go_roundg k1
     case measure => have := HK1.out; omega
     case rel => exact ⟨(wrap64 (x5_1 + (wrap64 ((rd l0 x6_1) * t320)))), (wrap64 (x6_1 + 1)), (by first | rfl | (simp; done) | (simp [*]; done)), (by first | rfl | (simp; done) | (simp [*]; done)), H', ⟨by have := HK1.out; omega⟩, by repeat (first | exact Drawn0.refl _ | apply Drawn0.step)⟩
    ·
     rw [if_neg c4] at H
     exact absurd H (by simp)
   ·
    rw [if_neg c3] at H
    have c3b0 : decide (x6_1 < (l0.length : Int)) = false := decide_eq_false c3
    clear c3
    obtain rfl := Option.some.inj H
    go_wp2
    repeat (go_quiet (fail); try go_wp2)
    go_ret
    exact ⟨by first | rfl | (simp; done) | (simp [*]; done), by repeat (first | exact Drawn0.refl _ | apply Drawn0.step)⟩

/-! ### spec_l5Cost: function 32 -/
def spec_l5Cost.f (k : Nat) (l0 : List Int) (a1 : Int) (a2 : Int) (a3 : Int) : Option (Int) := (spec_l5Over.f k l0 a3).bind fun t321 => ((spec_l5Short.f k l0 a3).bind fun t322 => (some (wrap64 ((wrap64 (a1 * t321)) + (wrap64 (a2 * t322))))))
theorem spec_l5Cost.mono : ∀ a0 a1 a2 a3 k, LeO (spec_l5Cost.f k a0 a1 a2 a3) (spec_l5Cost.f (k + 1) a0 a1 a2 a3) := by
 intro a0 a1 a2 a3 k
 unfold spec_l5Cost.f
 repeat' first
   | (with_reducible exact spec_l5Over.mono _ _ _)
   | (with_reducible exact spec_l5Short.mono _ _ _)
   | (with_reducible exact LeO.refl _)
   | (with_reducible exact LeO.none _)
   | (with_reducible refine LeO.ite ?_ ?_)
   | (with_reducible refine LeO.bind ?_ (fun _ => ?_))
   | exact spec_l5Over.mono _ _ _
   | exact spec_l5Short.mono _ _ _
   | exact LeO.none _
   | refine LeO.ite ?_ ?_
   | refine LeO.bind ?_ (fun _ => ?_)
set_option maxHeartbeats 8000000 in
set_option maxRecDepth 100000 in
theorem spec_l5Cost.calls (k : Nat) (A0 : Option Addr) (c0 : Nat) (l0 : List Int) (a1 : Int) (a2 : Int) (a3 : Int) (r : Int) (w : World) (hr0 : Kd.C (Kd.int .i64) w A0 l0.length l0) (hc0 : l0.length ≤ c0) (h : spec_l5Cost.f k l0 a1 a2 a3 = some r) :
  Calls Try.prog 32 #[.slice A0 l0.length c0, .int .i64 a1, .int .i64 a2, .int .i64 a3] w fun e w' => e = .returned (.int .i64 r) ∧ Drawn0 w w' := by
 have HR0 := am_ hr0
 have HC0 := am_ hc0
 clear hr0 hc0
 have H : ((spec_l5Over.f k l0 a3).bind fun t321 => ((spec_l5Short.f k l0 a3).bind fun t322 => (some (wrap64 ((wrap64 (a1 * t321)) + (wrap64 (a2 * t322))))))) = some r := h
 clear h
 replace H := Option.bind_eq_some_iff.mp H
 obtain ⟨t321, A50, H⟩ := H
 replace H : ((spec_l5Short.f k l0 a3).bind fun t322 => (some (wrap64 ((wrap64 (a1 * t321)) + (wrap64 (a2 * t322)))))) = some r := H
 have A5 := am_ A50
 clear A50
 replace H := Option.bind_eq_some_iff.mp H
 obtain ⟨t322, A60, H⟩ := H
 replace H : (some (wrap64 ((wrap64 (a1 * t321)) + (wrap64 (a2 * t322))))) = some r := H
 have A6 := am_ A60
 clear A60
 obtain rfl := Option.some.inj H
 go_enter Try.func32, Try.ntmps32
 go_wp2_with (first | ((with_reducible refine gc_ (f := 45) rfl ?_); refine goesL_ (some 12) rfl rfl Try.func45 (by kernel_rfl) rfl #[.slice A0 l0.length c0, .int .i64 a3] rfl (by (try simp only [List.map_toArray, List.map_cons, List.map_nil]); first | done | rfl | (simp only [List.length_drop, List.length_take]; rfl)) ?_; (with_reducible refine (spec_l5Over.calls k _ _ l0 a3 t321 _ ?side1 ?side2 A5.out).mono ?_); (case side1 => repeat (first | exact HR0.out | (with_reducible refine ca_ ?_ _) | (with_reducible refine cn_ ?_ _) | (with_reducible refine cd_ ?_))); (case side2 => exact HC0.out); rintro e w' ⟨rfl, ⟨nd, rfl⟩⟩; refine ⟨_, rfl, ?_⟩) | ((with_reducible refine gc_ (f := 46) rfl ?_); refine goesL_ (some 17) rfl rfl Try.func46 (by kernel_rfl) rfl #[.slice A0 l0.length c0, .int .i64 a3] rfl (by (try simp only [List.map_toArray, List.map_cons, List.map_nil]); first | done | rfl | (simp only [List.length_drop, List.length_take]; rfl)) ?_; (with_reducible refine (spec_l5Short.calls k _ _ l0 a3 t322 _ ?side1 ?side2 A6.out).mono ?_); (case side1 => repeat (first | exact HR0.out | (with_reducible refine ca_ ?_ _) | (with_reducible refine cn_ ?_ _) | (with_reducible refine cd_ ?_))); (case side2 => exact HC0.out); rintro e w' ⟨rfl, ⟨nd, rfl⟩⟩; refine ⟨_, rfl, ?_⟩))
 go_ret
 exact ⟨by first | rfl | (simp; done) | (simp [*]; done), by repeat (first | exact Drawn0.refl _ | apply Drawn0.step)⟩

-- NOT PRINTED: function 30 (spec_l5Try)

/-! ### spec_BudgetOrders: function 7 -/
/- ours: made by wip/seat21 (bud*.txt) -/
/- spec_l5Try: function 30 -/
mutual
def spec_l5Try.l0 : Nat → List (List Int) → Int → Int → List Int → Int → List Int → Int → List Int → Int → Bool → Int → Option (List Int × Int × Bool)
 | 0, _, _, _, _, _, _, _, _, _, _, _ => none
 | k + 1, x0, x1, x2, x3, x4, x5, x6, b, t, u, q => if q ≤ 15 then (if (x5.length : Int) < (x3.length : Int) then (if wrap64 (q * rd x3 (x5.length : Int)) ≤ x4 then (if (x5.length : Int) < (x0.length : Int) then ((spec_l1Own.f x5).bind fun y => (if y.length < 17592186044416 then ((spec_l5Cost.f k (rd_L2 x0 (x5.length : Int)) x1 x2 q).bind fun c => ((spec_l5Try.f k x0 x1 x2 x3 (wrap64 (x4 - wrap64 (q * rd x3 (x5.length : Int)))) (y ++ [q]) (wrap64 (x6 + c)) b t u).bind fun bt => (spec_l5Try.l0 k x0 x1 x2 x3 x4 x5 x6 bt.1 bt.2.1 bt.2.2 (wrap64 (q + 1))))) else (none))) else (none)) else (some (b, t, u))) else (none)) else (some (b, t, u))
def spec_l5Try.f : Nat → List (List Int) → Int → Int → List Int → Int → List Int → Int → List Int → Int → Bool → Option (List Int × Int × Bool)
 | 0, _, _, _, _, _, _, _, _, _, _ => none
 | k + 1, x0, x1, x2, x3, x4, x5, x6, b, t, u => if (x5.length : Int) = (x0.length : Int) then (if u = true then (if x6 < t then (some (x5, x6, true)) else (some (b, t, u))) else (some (x5, x6, true))) else (spec_l5Try.l0 k x0 x1 x2 x3 x4 x5 x6 b t u 0)
end
theorem spec_l5Try.mono_l : ∀ k, (∀ y0 y1 y2 y3 y4 y5 y6 y7 y8 y9, LeO (spec_l5Try.f k y0 y1 y2 y3 y4 y5 y6 y7 y8 y9) (spec_l5Try.f (k + 1) y0 y1 y2 y3 y4 y5 y6 y7 y8 y9)) ∧ (∀ y0 y1 y2 y3 y4 y5 y6 y7 y8 y9 y10, LeO (spec_l5Try.l0 k y0 y1 y2 y3 y4 y5 y6 y7 y8 y9 y10) (spec_l5Try.l0 (k + 1) y0 y1 y2 y3 y4 y5 y6 y7 y8 y9 y10))
 | 0 => ⟨fun _ _ _ _ _ _ _ _ _ _ r h => by simp [spec_l5Try.f] at h, fun _ _ _ _ _ _ _ _ _ _ _ r h => by simp [spec_l5Try.l0] at h⟩
 | k + 1 => by
  obtain ⟨ih0, ih1⟩ := spec_l5Try.mono_l k
  refine ⟨?_, ?_⟩
  ·
   intro y0 y1 y2 y3 y4 y5 y6 y7 y8 y9
   unfold spec_l5Try.f
   repeat' first
   | (with_reducible exact ih1 _ _ _ _ _ _ _ _ _ _ _)
   | (with_reducible exact LeO.refl _)
   | (with_reducible exact LeO.none _)
   | (with_reducible refine LeO.ite ?_ ?_)
   | (with_reducible refine LeO.bind ?_ (fun _ => ?_))
  ·
   intro y0 y1 y2 y3 y4 y5 y6 y7 y8 y9 y10
   unfold spec_l5Try.l0
   repeat' first
   | (with_reducible exact ih0 _ _ _ _ _ _ _ _ _ _)
   | (with_reducible exact ih1 _ _ _ _ _ _ _ _ _ _ _)
   | (with_reducible exact spec_l5Cost.mono _ _ _ _ _)
   | (with_reducible exact LeO.refl _)
   | (with_reducible exact LeO.none _)
   | (with_reducible refine LeO.ite ?_ ?_)
   | (with_reducible refine LeO.bind ?_ (fun _ => ?_))
theorem spec_l5Try.mono : ∀ a0 a1 a2 a3 a4 a5 a6 a7 a8 a9 k, LeO (spec_l5Try.f k a0 a1 a2 a3 a4 a5 a6 a7 a8 a9) (spec_l5Try.f (k + 1) a0 a1 a2 a3 a4 a5 a6 a7 a8 a9) := fun a0 a1 a2 a3 a4 a5 a6 a7 a8 a9 k => (spec_l5Try.mono_l k).1 a0 a1 a2 a3 a4 a5 a6 a7 a8 a9
/-- append(l1Own(begun), q) at a step of a drawn region: the row is the call's own. -/
theorem try_grows {ops : Array Oper} {o : Oper} {a : Act} {K : Act → World → Prop} {Q : Exit → Act → World → Prop} {E : Prop} {w0 W : World} (v : Value) (y : List Int) (x : Int) {l2 : List Int} (h2 : l2 = y ++ [x]) (hg : o.guard = none) (s z : Operand) (hop : o.op = Op.call { callee := Callee.builtin Builtin.append, args := #[s, z], argTypes := #[25, 25] })
  (hR : Kd.R (Kd.int .i64) 3 W w0.heap.size (fun _ => True) v y) (hs : a.eval s = v) (n : Nat) (hz : a.eval z = .slice (some ⟨n, 0, none⟩) 1 1) (hn : W.heap[n]? = some (.cells #[.int .i64 x] 3 (0, 0))) (HB : Below w0.heap.size w0 W) (hl : y.length < 17592186044416)
  (h : ∀ A2 c2 w2, Kd.R (Kd.int .i64) 3 w2 w0.heap.size (fun _ => True) (.slice A2 l2.length c2) l2 → Below w0.heap.size w0 w2 → K (a.put o.dst (.slice A2 l2.length c2)) w2) :
  if Region.wanted o (yielded ops a.tmps) = true then Oper.wp Try.prog o a W K Q else E := by
 subst h2
 obtain ⟨i_, hi_, z_, s_, b_⟩ := info_parts info3
 have hown := Kd.own_of_R (h1 := fun _ => rfl) hR
 refine step_append_lies _ hg s z 25 hop w0.heap.size 3 i_ (.int .i64 0) 1 8 Try.underlying25 hi_ z_ s_ b_ rfl (by decide) v y.length (encs (Value.int .i64) y) hs hown ⟨n, 0, none⟩ 1 1 [.int .i64 x] hz (by simp) (two_cells hn) ?one (by omega) (by simp only [maxLen]; omega) (by omega) HB.size W.heap.size rfl ?k
 case one => intro u hu; simp at hu; subst hu; rfl
 case k =>
  intro g cap w' hown' hgr _ _
  have hown2 : w'.ownsRow w0.heap.size 3 1 (.slice (some ⟨g, 0, none⟩) (y.length + 1) cap) (y ++ [x]).length (encs (Value.int .i64) (y ++ [x])) := by
   simpa [encs] using hown'
  have hR0 : Kd.R (Kd.int .i64) 3 w' w0.heap.size (fun _ => True) (.slice (some ⟨g, 0, none⟩) (y.length + 1) cap) (y ++ [x]) := Kd.R_of_own (h1 := fun _ => rfl) hown2 (fun _ _ => trivial)
  have e : (y ++ [x]).length = y.length + 1 := by simp
  rw [← e] at hR0 ⊢
  exact h (some ⟨g, 0, none⟩) cap w' hR0 (HB.grown hgr HB.size (own_base hown))
theorem try_set3 {W : World} {base : Nat} {v : Value} {xs : List Int} {g : Nat} {cs : Array Value} (h : Kd.R (Kd.int .i64) 3 W base (fun _ => True) v xs) (hg : W.heap[g]? = some (.cells cs 56 (0, 0))) (u0 u1 u2 : Value) : Kd.R (Kd.int .i64) 3 (((W.setCell ⟨g, 0, none⟩ u0).setCell ⟨g, 1, none⟩ u1).setCell ⟨g, 2, none⟩ u2) base (fun _ => True) v xs := by
 refine Kd.R_mono (Kd.R_step (Kd.R_bound h) (fun k hk _ => ?_)) (fun _ _ => trivial)
 obtain ⟨_, _, _, q, hq, cells, hc⟩ := hk
 have hq3 : q = 3 := by simpa [Kd.int, Kd.scalar] using hq
 subst hq3
 have hne : k ≠ g := by
  rintro rfl
  rw [hc] at hg
  injection hg with hg
  injection hg with _ h2 _
  exact absurd h2 (by decide)
 rw [Below.heap_setCell _ _ _ _ hne, Below.heap_setCell _ _ _ _ hne, Below.heap_setCell _ _ _ _ hne]
def spec_l5Try.T9 : Bool × List (List Nat × List Nat) := (true, [([], []), ([], []), ([], []), ([], []), ([], []), ([], []), ([], []), ([], []), ([6, 7], [6, 7]), ([8], [8]), ([5, 9], [5, 9]), ([4, 10], [4, 10]), ([], []), ([12], [12]), ([], []), ([14], [14]), ([13, 15, 13], [13, 15]), ([], []), ([], []), ([], []), ([18, 19], [18, 19]), ([20], [20]), ([], []), ([], []), ([], []), ([21, 22, 23, 24, 16], [21, 22, 23, 24]), ([17, 25], [17, 25]), ([], []), ([0, 1, 2, 3, 11, 16, 26, 27, 25], [0, 1, 2, 3, 11, 16, 26, 27]), ([28, 28, 0, 1, 2, 3, 4, 5, 6, 7, 8, 9, 10, 11, 12, 13, 14, 15, 16, 17, 18, 19, 20, 21, 22, 23, 24, 25, 26, 27, 28], [28])])
def spec_l5Try.B9 : List Nat := [0, 0, 0, 0, 0, 0, 0, 0, 192, 448, 992, 2032, 0, 4096, 0, 16384, 61440, 0, 0, 0, 786432, 1835008, 0, 0, 0, 33419264, 67104768, 0, 268435455, 536870911]
theorem spec_l5Try.tab9 : rtab .any (opsOf Try.f30 9) = spec_l5Try.T9 := by kernel_rfl
theorem spec_l5Try.bits9 : waitsOk spec_l5Try.T9.2 spec_l5Try.B9 = true := by kernel_rfl
set_option maxHeartbeats 8000000 in
set_option maxRecDepth 100000 in
theorem spec_l5Try.calls (k : Nat) : ∀ (base : Nat) (A0 : Option Addr) (c0 : Nat) (l0 : List (List Int)) (a1 a2 : Int) (A3 : Option Addr) (c3 : Nat) (l3 : List Int) (a4 : Int) (A5 : Option Addr) (c5 : Nat) (l5 : List Int) (a6 : Int) (AB : Option Addr) (cB : Nat) (bl : List Int) (t : Int) (u : Bool) (r1 : List Int) (r2 : Int) (r3 : Bool) (w : World)
  (hr0 : Kd.C (Kd.slice 3 (Kd.int .i64)) w A0 l0.length l0) (hc0 : l0.length ≤ c0) (hr3 : Kd.C (Kd.int .i64) w A3 l3.length l3) (hc3 : l3.length ≤ c3) (hr5 : Kd.R (Kd.int .i64) 3 w base (fun _ => True) (.slice A5 l5.length c5) l5) (hrB : Kd.R (Kd.int .i64) 3 w base (fun _ => True) (.slice AB bl.length cB) bl) (hbase : base ≤ w.heap.size)
  (h : spec_l5Try.f k l0 a1 a2 l3 a4 l5 a6 bl t u = some (r1, r2, r3)),
  Calls Try.prog 30 #[.slice A0 l0.length c0, .int .i64 a1, .int .i64 a2, .slice A3 l3.length c3, .int .i64 a4, .slice A5 l5.length c5, .int .i64 a6, .agg #[.slice AB bl.length cB, .int .i64 t, .bool u]] w fun e w' => ∃ A c, e = .returned (.agg #[.slice A r1.length c, .int .i64 r2, .bool r3]) ∧ Kd.R (Kd.int .i64) 3 w' base (fun _ => True) (.slice A r1.length c) r1 ∧ Below w.heap.size w w' := by
 induction k using Nat.strongRecOn with
 | _ k ih =>
 intro base A0 c0 l0 a1 a2 A3 c3 l3 a4 A5 c5 l5 a6 AB cB bl t u r1 r2 r3 w hr0 hc0 hr3 hc3 hr5 hrB hbase h
 cases k with
 | zero => exact absurd h (by simp [spec_l5Try.f])
 | succ k =>
 simp only [spec_l5Try.f] at h
 have HR0 := am_ hr0
 have HC0 := am_ hc0
 have HR3 := am_ hr3
 have HC3 := am_ hc3
 have HR5 := am_ hr5
 have HC5 := am_ (rr_ hr5).2.1
 have HRB := am_ hrB
 have HBASE := am_ hbase
 clear hr0 hc0 hr3 hc3 hr5 hrB hbase
 have H := h
 clear h
 by_cases e3 : (l5.length : Int) = (l0.length : Int)
 ·
  rw [if_pos e3] at H
  have e3b0 : ((l5.length : Int) == (l0.length : Int)) = true := beq_iff_eq.mpr e3
  have e3b1 : ((l5.length : Int) != (l0.length : Int)) = false := bne_eq_false_iff_eq.mpr e3
  have e3b2 : (l5.length == l0.length) = true := by first | simpa using e3 | (simp at e3 ⊢; omega)
  clear e3
  by_cases e4 : u = true
  ·
   subst e4
   rw [if_pos rfl] at H
   by_cases e5 : a6 < t
   ·
    rw [if_pos e5] at H
    have e5b0 : decide (a6 < t) = true := decide_eq_true e5
    clear e5
    simp only [Option.some.injEq, Prod.mk.injEq] at H
    obtain ⟨rfl, rfl, rfl⟩ := H
    go_enter Try.func30, Try.ntmps30
    go_wp2_with (first | ((with_reducible refine gate_dst (N := 15) rfl ?_); refine box_event ?hg (N := 15) ?hd (cs := #[.slice AB bl.length cB, .int .i64 t, .bool true]) (t := 56) ?hr ?_; (case hd => rfl); (case hg => rfl); (case hr => first | (go_simp; done) | (go_simp; rfl)); intro g15 hg15 w15 hbox15 hb15; have GE15 := am_ (by rw [hg15]; exact Nat.le_refl _ : w.heap.size ≤ g15); have HB := am_ hb15; have BK15 := am_ hbox15; clear hg15 hbox15 hb15) | ((with_reducible refine gate_dst (N := 16) rfl ?_); refine box_event ?hg (N := 16) ?hd (cs := #[.slice none 0 0, .int .i64 0, .bool false]) (t := 56) ?hr ?_; (case hd => rfl); (case hg => rfl); (case hr => first | (go_simp; done) | (go_simp; rfl)); intro g16 hg16 w16 hbox16 hb16; have L16 := am_ (by rw [hg16]; exact blk_lt BK15.out : g15 < g16); have n_ := am_ (bp_ HB.out hb16); clear HB; have HB := n_; clear n_; have n_ := am_ (kb_ BK15.out hb16); clear BK15; have BK15 := n_; clear n_; have BK16 := am_ hbox16; clear hg16 hbox16 hb16; have hc15_0 : w16.cell? ⟨g15, 0, none⟩ = some (.slice AB bl.length cB) := (kc_ BK15.out 0).trans rfl; have hf15_0 : w16.frozen? ⟨g15, 0, none⟩ = false := kf_ BK15.out 0; have hc15_1 : w16.cell? ⟨g15, 1, none⟩ = some (.int .i64 t) := (kc_ BK15.out 1).trans rfl; have hf15_1 : w16.frozen? ⟨g15, 1, none⟩ = false := kf_ BK15.out 1; have hc15_2 : w16.cell? ⟨g15, 2, none⟩ = some (.bool true) := (kc_ BK15.out 2).trans rfl; have hf15_2 : w16.frozen? ⟨g15, 2, none⟩ = false := kf_ BK15.out 2; have hc16_0 : w16.cell? ⟨g16, 0, none⟩ = some (.slice none 0 0) := (kc_ BK16.out 0).trans rfl; have hf16_0 : w16.frozen? ⟨g16, 0, none⟩ = false := kf_ BK16.out 0; have hc16_1 : w16.cell? ⟨g16, 1, none⟩ = some (.int .i64 0) := (kc_ BK16.out 1).trans rfl; have hf16_1 : w16.frozen? ⟨g16, 1, none⟩ = false := kf_ BK16.out 1; have hc16_2 : w16.cell? ⟨g16, 2, none⟩ = some (.bool false) := (kc_ BK16.out 2).trans rfl; have hf16_2 : w16.frozen? ⟨g16, 2, none⟩ = false := kf_ BK16.out 2) | ((with_reducible refine gate_store (t := 56) (p := 16) rfl ?_); refine store_event (t := 56) (p := 16) (v := .tmp 35) (w1 := (((w16.setCell ⟨g16, 0, none⟩ (.slice A5 l5.length c5)).setCell ⟨g16, 1, none⟩ (.int .i64 a6)).setCell ⟨g16, 2, none⟩ (.bool true))) ?hg ?ho ?hn ?hr ?_; (case ho => rfl); (case hg => rfl); (case hn => rfl); (case hr => first | (go_simp; done) | (go_simp; rfl)); intro w17 hw17; have BK16b := am_ (by rw [hw17]; exact blk_put (blk_put (blk_put (BK16.out) 0 _ rfl) 1 _ rfl) 2 _ rfl : w17.heap[g16]? = some (.cells #[.slice A5 l5.length c5, .int .i64 a6, .bool true] 56 (0, 0))); have n_ := am_ (by rw [hw17]; exact bs_ (bs_ (bs_ (by repeat (first | (with_reducible first | exact HB.out | apply ba_ | apply pw_below_drewN | apply bd_) | exact HB.out)) (by have := GE15.out; have := L16.out; omega)) (by have := GE15.out; have := L16.out; omega)) (by have := GE15.out; have := L16.out; omega) : Below w.heap.size w w17); clear HB; have HB := n_; clear n_ hw17))
    (try simp only [Exit.inBlock, Exit.then])
    refine bodyPost_ret (results_cell_row rfl _ _ g16 56 #[.slice A5 l5.length c5, .int .i64 a6, .bool true] (0, 0) _ rfl (BK16b.out) Try.underlying56 rfl (by kernel_rfl)) rfl ?_
    exact ⟨_, _, rfl, rb_ HR5.out HB.out, HB.out⟩
   ·
    rw [if_neg e5] at H
    have e5b0 : decide (a6 < t) = false := decide_eq_false e5
    clear e5
    simp only [Option.some.injEq, Prod.mk.injEq] at H
    obtain ⟨rfl, rfl, rfl⟩ := H
    go_enter Try.func30, Try.ntmps30
    go_wp2_with (first | ((with_reducible refine gate_dst (N := 15) rfl ?_); refine box_event ?hg (N := 15) ?hd (cs := #[.slice AB bl.length cB, .int .i64 t, .bool true]) (t := 56) ?hr ?_; (case hd => rfl); (case hg => rfl); (case hr => first | (go_simp; done) | (go_simp; rfl)); intro g15 hg15 w15 hbox15 hb15; have GE15 := am_ (by rw [hg15]; exact Nat.le_refl _ : w.heap.size ≤ g15); have HB := am_ hb15; have BK15 := am_ hbox15; clear hg15 hbox15 hb15) | ((with_reducible refine gate_dst (N := 16) rfl ?_); refine box_event ?hg (N := 16) ?hd (cs := #[.slice none 0 0, .int .i64 0, .bool false]) (t := 56) ?hr ?_; (case hd => rfl); (case hg => rfl); (case hr => first | (go_simp; done) | (go_simp; rfl)); intro g16 hg16 w16 hbox16 hb16; have L16 := am_ (by rw [hg16]; exact blk_lt BK15.out : g15 < g16); have n_ := am_ (bp_ HB.out hb16); clear HB; have HB := n_; clear n_; have n_ := am_ (kb_ BK15.out hb16); clear BK15; have BK15 := n_; clear n_; have BK16 := am_ hbox16; clear hg16 hbox16 hb16; have hc15_0 : w16.cell? ⟨g15, 0, none⟩ = some (.slice AB bl.length cB) := (kc_ BK15.out 0).trans rfl; have hf15_0 : w16.frozen? ⟨g15, 0, none⟩ = false := kf_ BK15.out 0; have hc15_1 : w16.cell? ⟨g15, 1, none⟩ = some (.int .i64 t) := (kc_ BK15.out 1).trans rfl; have hf15_1 : w16.frozen? ⟨g15, 1, none⟩ = false := kf_ BK15.out 1; have hc15_2 : w16.cell? ⟨g15, 2, none⟩ = some (.bool true) := (kc_ BK15.out 2).trans rfl; have hf15_2 : w16.frozen? ⟨g15, 2, none⟩ = false := kf_ BK15.out 2; have hc16_0 : w16.cell? ⟨g16, 0, none⟩ = some (.slice none 0 0) := (kc_ BK16.out 0).trans rfl; have hf16_0 : w16.frozen? ⟨g16, 0, none⟩ = false := kf_ BK16.out 0; have hc16_1 : w16.cell? ⟨g16, 1, none⟩ = some (.int .i64 0) := (kc_ BK16.out 1).trans rfl; have hf16_1 : w16.frozen? ⟨g16, 1, none⟩ = false := kf_ BK16.out 1; have hc16_2 : w16.cell? ⟨g16, 2, none⟩ = some (.bool false) := (kc_ BK16.out 2).trans rfl; have hf16_2 : w16.frozen? ⟨g16, 2, none⟩ = false := kf_ BK16.out 2) | ((with_reducible refine gate_store (t := 56) (p := 16) rfl ?_); refine store_event (t := 56) (p := 16) (v := .tmp 36) (w1 := (((w16.setCell ⟨g16, 0, none⟩ (.slice AB bl.length cB)).setCell ⟨g16, 1, none⟩ (.int .i64 t)).setCell ⟨g16, 2, none⟩ (.bool true))) ?hg ?ho ?hn ?hr ?_; (case ho => rfl); (case hg => rfl); (case hn => rfl); (case hr => first | (go_simp; done) | (go_simp; rfl)); intro w17 hw17; have BK16b := am_ (by rw [hw17]; exact blk_put (blk_put (blk_put (BK16.out) 0 _ rfl) 1 _ rfl) 2 _ rfl : w17.heap[g16]? = some (.cells #[.slice AB bl.length cB, .int .i64 t, .bool true] 56 (0, 0))); have n_ := am_ (by rw [hw17]; exact bs_ (bs_ (bs_ (by repeat (first | (with_reducible first | exact HB.out | apply ba_ | apply pw_below_drewN | apply bd_) | exact HB.out)) (by have := GE15.out; have := L16.out; omega)) (by have := GE15.out; have := L16.out; omega)) (by have := GE15.out; have := L16.out; omega) : Below w.heap.size w w17); clear HB; have HB := n_; clear n_ hw17))
    (try simp only [Exit.inBlock, Exit.then])
    refine bodyPost_ret (results_cell_row rfl _ _ g16 56 #[.slice AB bl.length cB, .int .i64 t, .bool true] (0, 0) _ rfl (BK16b.out) Try.underlying56 rfl (by kernel_rfl)) rfl ?_
    exact ⟨_, _, rfl, rb_ HRB.out HB.out, HB.out⟩
  ·
   replace e4 := Bool.eq_false_iff.mpr e4
   subst e4
   rw [if_neg (show ¬ (false = true) by decide)] at H
   simp only [Option.some.injEq, Prod.mk.injEq] at H
   obtain ⟨rfl, rfl, rfl⟩ := H
   go_enter Try.func30, Try.ntmps30
   go_wp2_with (first | ((with_reducible refine gate_dst (N := 15) rfl ?_); refine box_event ?hg (N := 15) ?hd (cs := #[.slice AB bl.length cB, .int .i64 t, .bool false]) (t := 56) ?hr ?_; (case hd => rfl); (case hg => rfl); (case hr => first | (go_simp; done) | (go_simp; rfl)); intro g15 hg15 w15 hbox15 hb15; have GE15 := am_ (by rw [hg15]; exact Nat.le_refl _ : w.heap.size ≤ g15); have HB := am_ hb15; have BK15 := am_ hbox15; clear hg15 hbox15 hb15) | ((with_reducible refine gate_dst (N := 16) rfl ?_); refine box_event ?hg (N := 16) ?hd (cs := #[.slice none 0 0, .int .i64 0, .bool false]) (t := 56) ?hr ?_; (case hd => rfl); (case hg => rfl); (case hr => first | (go_simp; done) | (go_simp; rfl)); intro g16 hg16 w16 hbox16 hb16; have L16 := am_ (by rw [hg16]; exact blk_lt BK15.out : g15 < g16); have n_ := am_ (bp_ HB.out hb16); clear HB; have HB := n_; clear n_; have n_ := am_ (kb_ BK15.out hb16); clear BK15; have BK15 := n_; clear n_; have BK16 := am_ hbox16; clear hg16 hbox16 hb16; have hc15_0 : w16.cell? ⟨g15, 0, none⟩ = some (.slice AB bl.length cB) := (kc_ BK15.out 0).trans rfl; have hf15_0 : w16.frozen? ⟨g15, 0, none⟩ = false := kf_ BK15.out 0; have hc15_1 : w16.cell? ⟨g15, 1, none⟩ = some (.int .i64 t) := (kc_ BK15.out 1).trans rfl; have hf15_1 : w16.frozen? ⟨g15, 1, none⟩ = false := kf_ BK15.out 1; have hc15_2 : w16.cell? ⟨g15, 2, none⟩ = some (.bool false) := (kc_ BK15.out 2).trans rfl; have hf15_2 : w16.frozen? ⟨g15, 2, none⟩ = false := kf_ BK15.out 2; have hc16_0 : w16.cell? ⟨g16, 0, none⟩ = some (.slice none 0 0) := (kc_ BK16.out 0).trans rfl; have hf16_0 : w16.frozen? ⟨g16, 0, none⟩ = false := kf_ BK16.out 0; have hc16_1 : w16.cell? ⟨g16, 1, none⟩ = some (.int .i64 0) := (kc_ BK16.out 1).trans rfl; have hf16_1 : w16.frozen? ⟨g16, 1, none⟩ = false := kf_ BK16.out 1; have hc16_2 : w16.cell? ⟨g16, 2, none⟩ = some (.bool false) := (kc_ BK16.out 2).trans rfl; have hf16_2 : w16.frozen? ⟨g16, 2, none⟩ = false := kf_ BK16.out 2) | ((with_reducible refine gate_store (t := 56) (p := 16) rfl ?_); refine store_event (t := 56) (p := 16) (v := .tmp 35) (w1 := (((w16.setCell ⟨g16, 0, none⟩ (.slice A5 l5.length c5)).setCell ⟨g16, 1, none⟩ (.int .i64 a6)).setCell ⟨g16, 2, none⟩ (.bool true))) ?hg ?ho ?hn ?hr ?_; (case ho => rfl); (case hg => rfl); (case hn => rfl); (case hr => first | (go_simp; done) | (go_simp; rfl)); intro w17 hw17; have BK16b := am_ (by rw [hw17]; exact blk_put (blk_put (blk_put (BK16.out) 0 _ rfl) 1 _ rfl) 2 _ rfl : w17.heap[g16]? = some (.cells #[.slice A5 l5.length c5, .int .i64 a6, .bool true] 56 (0, 0))); have n_ := am_ (by rw [hw17]; exact bs_ (bs_ (bs_ (by repeat (first | (with_reducible first | exact HB.out | apply ba_ | apply pw_below_drewN | apply bd_) | exact HB.out)) (by have := GE15.out; have := L16.out; omega)) (by have := GE15.out; have := L16.out; omega)) (by have := GE15.out; have := L16.out; omega) : Below w.heap.size w w17); clear HB; have HB := n_; clear n_ hw17))
   (try simp only [Exit.inBlock, Exit.then])
   refine bodyPost_ret (results_cell_row rfl _ _ g16 56 #[.slice A5 l5.length c5, .int .i64 a6, .bool true] (0, 0) _ rfl (BK16b.out) Try.underlying56 rfl (by kernel_rfl)) rfl ?_
   exact ⟨_, _, rfl, rb_ HR5.out HB.out, HB.out⟩
 ·
  rw [if_neg e3] at H
  have e3b0 : ((l5.length : Int) == (l0.length : Int)) = false := beq_eq_false_iff_ne.mpr e3
  have e3b1 : ((l5.length : Int) != (l0.length : Int)) = true := bne_iff_ne.mpr e3
  have e3b2 : (l5.length == l0.length) = false := by first | simpa using e3 | (simp at e3 ⊢; omega)
  have H' := am_ H
  clear H
  go_enter Try.func30, Try.ntmps30
  go_wp2_with (first | ((with_reducible refine gate_dst (N := 15) rfl ?_); refine box_event ?hg (N := 15) ?hd (cs := #[.slice AB bl.length cB, .int .i64 t, .bool u]) (t := 56) ?hr ?_; (case hd => rfl); (case hg => rfl); (case hr => first | (go_simp; done) | (go_simp; rfl)); intro g15 hg15 w15 hbox15 hb15; have GE15 := am_ (by rw [hg15]; exact Nat.le_refl _ : w.heap.size ≤ g15); have HB := am_ hb15; have BK15 := am_ hbox15; clear hg15 hbox15 hb15) | ((with_reducible refine gate_dst (N := 16) rfl ?_); refine box_event ?hg (N := 16) ?hd (cs := #[.slice none 0 0, .int .i64 0, .bool false]) (t := 56) ?hr ?_; (case hd => rfl); (case hg => rfl); (case hr => first | (go_simp; done) | (go_simp; rfl)); intro g16 hg16 w16 hbox16 hb16; have L16 := am_ (by rw [hg16]; exact blk_lt BK15.out : g15 < g16); have n_ := am_ (bp_ HB.out hb16); clear HB; have HB := n_; clear n_; have n_ := am_ (kb_ BK15.out hb16); clear BK15; have BK15 := n_; clear n_; have BK16 := am_ hbox16; clear hg16 hbox16 hb16; have hc15_0 : w16.cell? ⟨g15, 0, none⟩ = some (.slice AB bl.length cB) := (kc_ BK15.out 0).trans rfl; have hf15_0 : w16.frozen? ⟨g15, 0, none⟩ = false := kf_ BK15.out 0; have hc15_1 : w16.cell? ⟨g15, 1, none⟩ = some (.int .i64 t) := (kc_ BK15.out 1).trans rfl; have hf15_1 : w16.frozen? ⟨g15, 1, none⟩ = false := kf_ BK15.out 1; have hc15_2 : w16.cell? ⟨g15, 2, none⟩ = some (.bool u) := (kc_ BK15.out 2).trans rfl; have hf15_2 : w16.frozen? ⟨g15, 2, none⟩ = false := kf_ BK15.out 2; have hc16_0 : w16.cell? ⟨g16, 0, none⟩ = some (.slice none 0 0) := (kc_ BK16.out 0).trans rfl; have hf16_0 : w16.frozen? ⟨g16, 0, none⟩ = false := kf_ BK16.out 0; have hc16_1 : w16.cell? ⟨g16, 1, none⟩ = some (.int .i64 0) := (kc_ BK16.out 1).trans rfl; have hf16_1 : w16.frozen? ⟨g16, 1, none⟩ = false := kf_ BK16.out 1; have hc16_2 : w16.cell? ⟨g16, 2, none⟩ = some (.bool false) := (kc_ BK16.out 2).trans rfl; have hf16_2 : w16.frozen? ⟨g16, 2, none⟩ = false := kf_ BK16.out 2))
  go_loopg [18] k (fun kq v18 w' => ∃ (q : Int) (bq : List Int) (tq : Int) (uq : Bool) (Aq : Option Addr) (cq : Nat), v18 = .int .i64 q ∧ Aside0 (spec_l5Try.l0 kq l0 a1 a2 l3 a4 l5 a6 bq tq uq q = some (r1, r2, r3)) ∧ Aside0 (kq ≤ k) ∧ Aside0 (Below w.heap.size w w') ∧ Aside0 (w'.heap[g15]? = some (.cells #[.slice Aq bq.length cq, .int .i64 tq, .bool uq] 56 (0, 0))) ∧ Aside0 (w'.heap[g16]? = some (.cells #[.slice none 0 0, .int .i64 0, .bool false] 56 (0, 0))) ∧ Aside0 (Kd.R (Kd.int .i64) 3 w' base (fun _ => True) (.slice Aq bq.length cq) bq))
  case atStart => exact ⟨0, bl, t, u, AB, cB, rfl, H', ⟨Nat.le_refl _⟩, HB, BK15, BK16, ⟨rb_ HRB.out HB.out⟩⟩
  case round =>
   clear H' hc15_0 hc15_1 hc15_2 hf15_0 hf15_1 hf15_2 hc16_0 hc16_1 hc16_2 hf16_0 hf16_1 hf16_2 HB BK15 BK16
   obtain ⟨q, bq, tq, uq, Aq, cq, rfl, HA, HK1, HB, BK15, BK16, HRBq⟩ := hrel
   cases gk with
   | zero => exact absurd HA.out (by simp [spec_l5Try.l0])
   | succ k1 =>
    have H := HA.out
    clear HA
    simp only [spec_l5Try.l0] at H
    by_cases e8 : q ≤ 15
    ·
     rw [if_pos e8] at H
     have e8b0 : decide (q ≤ 15) = true := decide_eq_true e8
     clear e8
     by_cases e9 : (l5.length : Int) < (l3.length : Int)
     ·
      rw [if_pos e9] at H
      have p1 : 0 ≤ (l5.length : Int) := Int.natCast_nonneg _
      obtain ⟨adP, eP, hxP⟩ := Kd.at_int HR3.out (l5.length : Int) p1 e9
      cases eP
      replace hxP := (HB.out.cell (World.block_lt_of_cell? w _ hxP)).trans hxP
      (try simp only [Go.IntWalk.toNatUp] at hxP)
      have q1 := eq_true e9
      by_cases e10 : wrap64 (q * rd l3 (l5.length : Int)) ≤ a4
      ·
       rw [if_pos e10] at H
       have e10b0 : decide (wrap64 (q * rd l3 (l5.length : Int)) ≤ a4) = true := decide_eq_true e10
       clear e10
       by_cases e11 : (l5.length : Int) < (l0.length : Int)
       ·
        rw [if_pos e11] at H
        obtain ⟨y, AY0, H⟩ := Option.bind_eq_some_iff.mp H
        have AY := am_ AY0
        clear AY0
        by_cases e12 : y.length < 17592186044416
        ·
         rw [if_pos e12] at H
         obtain ⟨c, AC0, H⟩ := Option.bind_eq_some_iff.mp H
         have AC := am_ AC0
         clear AC0
         obtain ⟨⟨b1, t1, u1⟩, AB0, H⟩ := Option.bind_eq_some_iff.mp H
         have AB1 := am_ AB0
         clear AB0
         have H' := am_ H
         clear H
         obtain ⟨adG, Ai, ci, eG, hxG, hlG, hiG⟩ := at_L2 HR0.out (l5.length : Int) p1 e11
         cases eG
         replace hxG := (HB.out.cell (World.block_lt_of_cell? w _ hxG)).trans hxG
         (try simp only [Go.IntWalk.toNatUp] at hxG)
         have HRI := am_ (cb_ hiG HB.out)
         have HLI := am_ hlG
         clear hiG hlG
         have q12 := eq_true e11
         have E12 := am_ e12
         clear e12
         have HR5w := am_ (rb_ HR5.out HB.out)
         have HBASEw := am_ (Nat.le_trans HBASE.out HB.out.size)
         have hc15_0 : wr.cell? ⟨g15, 0, none⟩ = some (.slice Aq bq.length cq) := (kc_ BK15.out 0).trans rfl; have hF15_0 : wr.frozen? ⟨g15, 0, none⟩ = false := kf_ BK15.out 0; have hc15_1 : wr.cell? ⟨g15, 1, none⟩ = some (.int .i64 tq) := (kc_ BK15.out 1).trans rfl; have hF15_1 : wr.frozen? ⟨g15, 1, none⟩ = false := kf_ BK15.out 1; have hc15_2 : wr.cell? ⟨g15, 2, none⟩ = some (.bool uq) := (kc_ BK15.out 2).trans rfl; have hF15_2 : wr.frozen? ⟨g15, 2, none⟩ = false := kf_ BK15.out 2
         have HSOF := am_ (show ∀ W, Below wr.heap.size wr W → (W.cell? (adP.add l5.length) = some (.int .i64 (rd l3 (l5.length : Int))) ∧ W.cell? (adG.add l5.length) = some (.slice Ai (rd_L2 l0 (l5.length : Int)).length ci) ∧ W.cell? ⟨g15, 0, none⟩ = some (.slice Aq bq.length cq) ∧ W.cell? ⟨g15, 1, none⟩ = some (.int .i64 tq) ∧ W.cell? ⟨g15, 2, none⟩ = some (.bool uq)) from fun W hb => ⟨(hb.cell (World.block_lt_of_cell? wr _ hxP)).trans hxP, (hb.cell (World.block_lt_of_cell? wr _ hxG)).trans hxG, (hb.cell (World.block_lt_of_cell? wr _ hc15_0)).trans hc15_0, (hb.cell (World.block_lt_of_cell? wr _ hc15_1)).trans hc15_1, (hb.cell (World.block_lt_of_cell? wr _ hc15_2)).trans hc15_2⟩)
         go_wp2_with fail
         refine start_ (n := 30) (S := fun w' => w'.cell? (adP.add l5.length) = some (.int .i64 (rd l3 (l5.length : Int))) ∧ w'.cell? (adG.add l5.length) = some (.slice Ai (rd_L2 l0 (l5.length : Int)).length ci) ∧ w'.cell? ⟨g15, 0, none⟩ = some (.slice Aq bq.length cq) ∧ w'.cell? ⟨g15, 1, none⟩ = some (.int .i64 tq) ∧ w'.cell? ⟨g15, 2, none⟩ = some (.bool uq)) (ds := [29]) #[false, false, false, false, false, false, false, false, false, false, false, false, false, false, false, false, false, false, false, false, false, false, false, false, false, false, false, false, false, false] (by kernel_rfl) rfl rfl ⟨hxP, hxG, hc15_0, hc15_1, hc15_2⟩ (fun hHeld => ?_)
         refine with_tabW spec_l5Try.tab9 spec_l5Try.bits9 (fun HT_ HW_ => ?_)
         have HW0 := am_ (show Below wr.heap.size wr wr.drew from bd_ (Below.refl _ _))
         refine pure_ (i := 0) (N := some 53) (v := ?_) (a' := ?_) #[true, false, false, false, false, false, false, false, false, false, false, false, false, false, false, false, false, false, false, false, false, false, false, false, false, false, false, false, false, false] rfl rfl (any_of HT_.out (by kernel_rfl)) (fun _ _ _ h => h) (Or.inl ⟨by rfl, ?_⟩) ?_ ?_
         rotate_left
         ·
          intro w'
          go_simp
          with_reducible rfl
         rotate_left
         ·
          simp only [Act.put, List.setIfInBounds_toArray, List.set_cons_zero, List.set_cons_succ, i64_w, i32_w]
          rfl
         refine pure_ (i := 1) (N := some 54) (v := ?_) (a' := ?_) #[true, true, false, false, false, false, false, false, false, false, false, false, false, false, false, false, false, false, false, false, false, false, false, false, false, false, false, false, false, false] rfl rfl (any_of HT_.out (by kernel_rfl)) (fun _ _ _ h => h) (Or.inl ⟨by rfl, ?_⟩) ?_ ?_
         rotate_left
         ·
          intro w'
          go_simp
          with_reducible rfl
         rotate_left
         ·
          simp only [Act.put, List.setIfInBounds_toArray, List.set_cons_zero, List.set_cons_succ, i64_w, i32_w]
          rfl
         refine pure_ (i := 2) (N := some 55) (v := ?_) (a' := ?_) #[true, true, true, false, false, false, false, false, false, false, false, false, false, false, false, false, false, false, false, false, false, false, false, false, false, false, false, false, false, false] rfl rfl (any_of HT_.out (by kernel_rfl)) (fun _ _ _ h => h) (Or.inl ⟨by rfl, ?_⟩) ?_ ?_
         rotate_left
         ·
          intro w'
          go_simp
          with_reducible rfl
         rotate_left
         ·
          simp only [Act.put, List.setIfInBounds_toArray, List.set_cons_zero, List.set_cons_succ, i64_w, i32_w]
          rfl
         refine pure_ (i := 3) (N := some 56) (v := ?_) (a' := ?_) #[true, true, true, true, false, false, false, false, false, false, false, false, false, false, false, false, false, false, false, false, false, false, false, false, false, false, false, false, false, false] rfl rfl (any_of HT_.out (by kernel_rfl)) (fun _ _ _ h => h) (Or.inl ⟨by rfl, ?_⟩) ?_ ?_
         rotate_left
         ·
          intro w'
          go_simp
          with_reducible rfl
         rotate_left
         ·
          simp only [Act.put, List.setIfInBounds_toArray, List.set_cons_zero, List.set_cons_succ, i64_w, i32_w]
          rfl
         refine pure_ (i := 4) (N := some 57) (v := ?_) (a' := ?_) #[true, true, true, true, true, false, false, false, false, false, false, false, false, false, false, false, false, false, false, false, false, false, false, false, false, false, false, false, false, false] rfl rfl (any_of HT_.out (by kernel_rfl)) (fun _ _ _ h => h) (Or.inl ⟨by rfl, ?_⟩) ?_ ?_
         rotate_left
         ·
          intro w'
          go_simp
          with_reducible rfl
         rotate_left
         ·
          simp only [Act.put, List.setIfInBounds_toArray, List.set_cons_zero, List.set_cons_succ, i64_w, i32_w]
          rfl
         refine pure_ (i := 5) (N := some 58) (v := ?_) (a' := ?_) #[true, true, true, true, true, true, false, false, false, false, false, false, false, false, false, false, false, false, false, false, false, false, false, false, false, false, false, false, false, false] rfl rfl (any_of HT_.out (by kernel_rfl)) (fun _ _ _ h => h) (Or.inl ⟨by rfl, ?_⟩) ?_ ?_
         rotate_left
         ·
          intro w'
          go_simp
          with_reducible rfl
         rotate_left
         ·
          simp only [Act.put, List.setIfInBounds_toArray, List.set_cons_zero, List.set_cons_succ, i64_w, i32_w]
          rfl
         refine pure_ (i := 6) (N := some 59) (v := ?_) (a' := ?_) #[true, true, true, true, true, true, true, false, false, false, false, false, false, false, false, false, false, false, false, false, false, false, false, false, false, false, false, false, false, false] rfl rfl (any_of HT_.out (by kernel_rfl)) (fun _ _ _ h => h) (Or.inl ⟨by rfl, ?_⟩) ?_ ?_
         rotate_left
         ·
          intro w'
          go_simp
          with_reducible rfl
         rotate_left
         ·
          simp only [Act.put, List.setIfInBounds_toArray, List.set_cons_zero, List.set_cons_succ, i64_w, i32_w]
          rfl
         refine pure_ (i := 7) (N := some 60) (v := ?_) (a' := ?_) #[true, true, true, true, true, true, true, true, false, false, false, false, false, false, false, false, false, false, false, false, false, false, false, false, false, false, false, false, false, false] rfl rfl (any_of HT_.out (by kernel_rfl)) (fun _ _ _ h => h) (Or.inl ⟨by rfl, ?_⟩) ?_ ?_
         rotate_left
         ·
          intro w'
          go_simp
          with_reducible rfl
         rotate_left
         ·
          simp only [Act.put, List.setIfInBounds_toArray, List.set_cons_zero, List.set_cons_succ, i64_w, i32_w]
          rfl
         refine pure_ (i := 8) (N := some 61) (v := ?_) (a' := ?_) #[true, true, true, true, true, true, true, true, true, false, false, false, false, false, false, false, false, false, false, false, false, false, false, false, false, false, false, false, false, false] rfl rfl (any_of HT_.out (by kernel_rfl)) (fun _ _ _ h => h) (Or.inl ⟨by rfl, ?_⟩) ?_ ?_
         rotate_left
         ·
          intro w'
          go_simp
          with_reducible rfl
         rotate_left
         ·
          simp only [Act.put, List.setIfInBounds_toArray, List.set_cons_zero, List.set_cons_succ, i64_w, i32_w]
          rfl
         refine take_ (i := 9) (N := some 62) (v := ?_) (a' := ?_) #[true, true, true, true, true, true, true, true, true, true, false, false, false, false, false, false, false, false, false, false, false, false, false, false, false, false, false, false, false, false] rfl rfl (take_ofW HT_.out HW_.out (by kernel_rfl)) (fun _ _ _ h => h) (Or.inl ⟨by rfl, ?_⟩) hHeld ?_ ?_
         rotate_left
         ·
          rintro w' ⟨s0, s1, s2, s3, s4⟩
          go_simp
          with_reducible rfl
         rotate_left
         ·
          simp only [Act.put, List.setIfInBounds_toArray, List.set_cons_zero, List.set_cons_succ, i64_w, i32_w]
          rfl
         refine pure_ (i := 10) (N := some 63) (v := ?_) (a' := ?_) #[true, true, true, true, true, true, true, true, true, true, true, false, false, false, false, false, false, false, false, false, false, false, false, false, false, false, false, false, false, false] rfl rfl (any_of HT_.out (by kernel_rfl)) (fun _ _ _ h => h) (Or.inl ⟨by rfl, ?_⟩) ?_ ?_
         rotate_left
         ·
          intro w'
          go_simp
          with_reducible rfl
         rotate_left
         ·
          simp only [Act.put, List.setIfInBounds_toArray, List.set_cons_zero, List.set_cons_succ, i64_w, i32_w]
          rfl
         refine pure_ (i := 11) (N := some 64) (v := ?_) (a' := ?_) #[true, true, true, true, true, true, true, true, true, true, true, true, false, false, false, false, false, false, false, false, false, false, false, false, false, false, false, false, false, false] rfl rfl (any_of HT_.out (by kernel_rfl)) (fun _ _ _ h => h) (Or.inl ⟨by rfl, ?_⟩) ?_ ?_
         rotate_left
         ·
          intro w'
          go_simp
          with_reducible rfl
         rotate_left
         ·
          simp only [Act.put, List.setIfInBounds_toArray, List.set_cons_zero, List.set_cons_succ, i64_w, i32_w]
          rfl
         refine pure_ (i := 12) (N := some 65) (v := ?_) (a' := ?_) #[true, true, true, true, true, true, true, true, true, true, true, true, true, false, false, false, false, false, false, false, false, false, false, false, false, false, false, false, false, false] rfl rfl (any_of HT_.out (by kernel_rfl)) (fun _ _ _ h => h) (Or.inl ⟨by rfl, ?_⟩) ?_ ?_
         rotate_left
         ·
          intro w'
          go_simp
          with_reducible rfl
         rotate_left
         ·
          simp only [Act.put, List.setIfInBounds_toArray, List.set_cons_zero, List.set_cons_succ, i64_w, i32_w]
          rfl
         refine pure_ (i := 14) (N := some 67) (v := ?_) (a' := ?_) #[true, true, true, true, true, true, true, true, true, true, true, true, true, false, true, false, false, false, false, false, false, false, false, false, false, false, false, false, false, false] rfl rfl (any_of HT_.out (by kernel_rfl)) (fun _ _ _ h => h) (Or.inl ⟨by rfl, ?_⟩) ?_ ?_
         rotate_left
         ·
          intro w'
          go_simp
          with_reducible rfl
         rotate_left
         ·
          simp only [Act.put, List.setIfInBounds_toArray, List.set_cons_zero, List.set_cons_succ, i64_w, i32_w]
          rfl
         refine pure_ (i := 17) (N := some 70) (v := ?_) (a' := ?_) #[true, true, true, true, true, true, true, true, true, true, true, true, true, false, true, false, false, true, false, false, false, false, false, false, false, false, false, false, false, false] rfl rfl (any_of HT_.out (by kernel_rfl)) (fun _ _ _ h => h) (Or.inl ⟨by rfl, ?_⟩) ?_ ?_
         rotate_left
         ·
          intro w'
          go_simp
          with_reducible rfl
         rotate_left
         ·
          simp only [Act.put, List.setIfInBounds_toArray, List.set_cons_zero, List.set_cons_succ, i64_w, i32_w]
          rfl
         refine pure_ (i := 18) (N := some 71) (v := ?_) (a' := ?_) #[true, true, true, true, true, true, true, true, true, true, true, true, true, false, true, false, false, true, true, false, false, false, false, false, false, false, false, false, false, false] rfl rfl (any_of HT_.out (by kernel_rfl)) (fun _ _ _ h => h) (Or.inl ⟨by rfl, ?_⟩) ?_ ?_
         rotate_left
         ·
          intro w'
          go_simp
          with_reducible rfl
         rotate_left
         ·
          simp only [Act.put, List.setIfInBounds_toArray, List.set_cons_zero, List.set_cons_succ, i64_w, i32_w]
          rfl
         refine pure_ (i := 19) (N := some 72) (v := ?_) (a' := ?_) #[true, true, true, true, true, true, true, true, true, true, true, true, true, false, true, false, false, true, true, true, false, false, false, false, false, false, false, false, false, false] rfl rfl (any_of HT_.out (by kernel_rfl)) (fun _ _ _ h => h) (Or.inl ⟨by rfl, ?_⟩) ?_ ?_
         rotate_left
         ·
          intro w'
          go_simp
          with_reducible rfl
         rotate_left
         ·
          simp only [Act.put, List.setIfInBounds_toArray, List.set_cons_zero, List.set_cons_succ, i64_w, i32_w]
          rfl
         refine pure_ (i := 20) (N := some 73) (v := ?_) (a' := ?_) #[true, true, true, true, true, true, true, true, true, true, true, true, true, false, true, false, false, true, true, true, true, false, false, false, false, false, false, false, false, false] rfl rfl (any_of HT_.out (by kernel_rfl)) (fun _ _ _ h => h) (Or.inl ⟨by rfl, ?_⟩) ?_ ?_
         rotate_left
         ·
          intro w'
          go_simp
          with_reducible rfl
         rotate_left
         ·
          simp only [Act.put, List.setIfInBounds_toArray, List.set_cons_zero, List.set_cons_succ, i64_w, i32_w]
          rfl
         refine take_ (i := 21) (N := some 74) (v := ?_) (a' := ?_) #[true, true, true, true, true, true, true, true, true, true, true, true, true, false, true, false, false, true, true, true, true, true, false, false, false, false, false, false, false, false] rfl rfl (take_ofW HT_.out HW_.out (by kernel_rfl)) (fun _ _ _ h => h) (Or.inl ⟨by rfl, ?_⟩) hHeld ?_ ?_
         rotate_left
         ·
          rintro w' ⟨s0, s1, s2, s3, s4⟩
          go_simp
          with_reducible rfl
         rotate_left
         ·
          simp only [Act.put, List.setIfInBounds_toArray, List.set_cons_zero, List.set_cons_succ, i64_w, i32_w]
          rfl
         refine pure_ (i := 22) (N := some 75) (v := ?_) (a' := ?_) #[true, true, true, true, true, true, true, true, true, true, true, true, true, false, true, false, false, true, true, true, true, true, true, false, false, false, false, false, false, false] rfl rfl (any_of HT_.out (by kernel_rfl)) (fun _ _ _ h => h) (Or.inl ⟨by rfl, ?_⟩) ?_ ?_
         rotate_left
         ·
          intro w'
          go_simp
          with_reducible rfl
         rotate_left
         ·
          simp only [Act.put, List.setIfInBounds_toArray, List.set_cons_zero, List.set_cons_succ, i64_w, i32_w]
          rfl
         refine pure_ (i := 23) (N := some 76) (v := ?_) (a' := ?_) #[true, true, true, true, true, true, true, true, true, true, true, true, true, false, true, false, false, true, true, true, true, true, true, true, false, false, false, false, false, false] rfl rfl (any_of HT_.out (by kernel_rfl)) (fun _ _ _ h => h) (Or.inl ⟨by rfl, ?_⟩) ?_ ?_
         rotate_left
         ·
          intro w'
          go_simp
          with_reducible rfl
         rotate_left
         ·
          simp only [Act.put, List.setIfInBounds_toArray, List.set_cons_zero, List.set_cons_succ, i64_w, i32_w]
          rfl
         refine pure_ (i := 24) (N := some 77) (v := ?_) (a' := ?_) #[true, true, true, true, true, true, true, true, true, true, true, true, true, false, true, false, false, true, true, true, true, true, true, true, true, false, false, false, false, false] rfl rfl (any_of HT_.out (by kernel_rfl)) (fun _ _ _ h => h) (Or.inl ⟨by rfl, ?_⟩) ?_ ?_
         rotate_left
         ·
          intro w'
          go_simp
          with_reducible rfl
         rotate_left
         ·
          simp only [Act.put, List.setIfInBounds_toArray, List.set_cons_zero, List.set_cons_succ, i64_w, i32_w]
          rfl
         refine take_ (i := 27) (N := some 80) (v := ?_) (a' := ?_) #[true, true, true, true, true, true, true, true, true, true, true, true, true, false, true, false, false, true, true, true, true, true, true, true, true, false, false, true, false, false] rfl rfl (take_ofW HT_.out HW_.out (by kernel_rfl)) (fun _ _ _ h => h) (Or.inl ⟨by rfl, ?_⟩) hHeld ?_ ?_
         rotate_left
         ·
          rintro w' ⟨s0, s1, s2, s3, s4⟩
          go_simp
          with_reducible rfl
         rotate_left
         ·
          simp only [Act.put, List.setIfInBounds_toArray, List.set_cons_zero, List.set_cons_succ, i64_w, i32_w]
          rfl
         refine join_ (σ := Option Addr × Nat × Nat) 5 #[true, true, true, true, true, true, true, true, true, true, true, true, true, true, true, true, false, true, true, true, true, true, true, true, true, false, false, true, false, false] (fun s_ => [(66, .slice s_.1 y.length s_.2.1), (68, .slice (some ⟨s_.2.2, 0, none⟩) 1 1)]) (fun s_ w' => Kd.R (Kd.int .i64) 3 w' wr.heap.size (fun _ => True) (.slice s_.1 y.length s_.2.1) y ∧ w'.heap[s_.2.2]? = some (.cells #[.int .i64 q] 3 (0, 0)) ∧ Below wr.heap.size wr w') ?_ ?_
         rotate_left
         ·
          intro hJ
          refine two_ (i := 13) (j := 15) (Ni := some 66) (Nj := some 68) #[true, true, true, true, true, true, true, true, true, true, true, true, true, true, true, false, false, true, true, true, true, true, true, true, true, false, false, true, false, false] #[true, true, true, true, true, true, true, true, true, true, true, true, true, false, true, true, false, true, true, true, true, true, true, true, true, false, false, true, false, false] rfl rfl rfl rfl (two_of HT_.out (by kernel_rfl)) (by decide) (by decide) (fun K hK => ?_) (fun K hK => ?_)
          ·
           skip
           refine goes_ Try.func39 (by kernel_rfl) rfl #[.slice A5 l5.length c5] (by rfl) rfl rfl (by (try simp only [List.map_toArray, List.map_cons, List.map_nil]); first | done | rfl) ?_
           refine (spec_l1Own.calls A5 c5 l5 y _ (cb_ (rr_ HR5w.out).2.2 HW0.out) HC5.out AY.out).mono ?_
           rintro e w31 ⟨v31, rfl, ho31, hb31⟩
           refine ⟨_, rfl, ?_⟩
           obtain ⟨A1, c1, rfl⟩ := rs_ ho31
           have HW1 := am_ (bp_ HW0.out hb31)
           have HR1 := am_ (Kd.R_lower ho31 (HW0.out).size)
           refine hK.out _ _ (HSOF.out _ HW1.out) (fun hHeld => ?_)
           clear hK K
           refine norm_ (a' := ?_) ?_ ?_
           rotate_left
           ·
            show Act.put _ (some 66) _ = _
            simp only [Act.put, List.setIfInBounds_toArray, List.set_cons_zero, List.set_cons_succ, i64_w, i32_w]
            rfl
           refine one_ (i := 15) (N := some 68) #[true, true, true, true, true, true, true, true, true, true, true, true, true, true, true, true, false, true, true, true, true, true, true, true, true, false, false, true, false, false] rfl rfl (one_of HT_.out (by kernel_rfl)) (by decide) (fun K hK => ?_)
           refine value_ (v := .slice (some ⟨w31.heap.size, 0, none⟩) 1 1) (w1 := w31.alloc (.cells #[.int .i64 q] 3)) (by rfl) rfl (by first | (go_simp; done) | (go_simp; rfl)) ?_
           refine hK.out _ _ (HSOF.out _ (ba_ HW1.out _)) (fun hHeld => ?_)
           clear hK K
           refine norm_ (a' := ?_) ?_ ?_
           rotate_left
           ·
            show Act.put _ (some 68) _ = _
            simp only [Act.put, List.setIfInBounds_toArray, List.set_cons_zero, List.set_cons_succ, i64_w, i32_w]
            rfl
           exact norm_ (by first | (simp only [putAll, Act.put, List.setIfInBounds_toArray, List.set_cons_zero, List.set_cons_succ]; done) | (simp only [putAll, Act.put, List.setIfInBounds_toArray, List.set_cons_zero, List.set_cons_succ]; rfl)) (hJ (A1, c1, w31.heap.size) _ ⟨ra_ HR1.out _, blk_new _ _, ba_ HW1.out _⟩)
          ·
           skip
           refine value_ (v := .slice (some ⟨wr.drew.heap.size, 0, none⟩) 1 1) (w1 := wr.drew.alloc (.cells #[.int .i64 q] 3)) (by rfl) rfl (by first | (go_simp; done) | (go_simp; rfl)) ?_
           have HWA := am_ (ba_ HW0.out (.cells #[.int .i64 q] 3))
           have hnew : (wr.drew.alloc (.cells #[.int .i64 q] 3)).heap[wr.drew.heap.size]? = some (.cells #[.int .i64 q] 3 (0, 0)) := blk_new _ _
           refine hK.out _ _ (HSOF.out _ HWA.out) (fun hHeld => ?_)
           clear hK K
           refine norm_ (a' := ?_) ?_ ?_
           rotate_left
           ·
            show Act.put _ (some 68) _ = _
            simp only [Act.put, List.setIfInBounds_toArray, List.set_cons_zero, List.set_cons_succ, i64_w, i32_w]
            rfl
           refine one_ (i := 13) (N := some 66) #[true, true, true, true, true, true, true, true, true, true, true, true, true, true, true, true, false, true, true, true, true, true, true, true, true, false, false, true, false, false] rfl rfl (one_of HT_.out (by kernel_rfl)) (by decide) (fun K hK => ?_)
           refine goes_ Try.func39 (by kernel_rfl) rfl #[.slice A5 l5.length c5] (by rfl) rfl rfl (by (try simp only [List.map_toArray, List.map_cons, List.map_nil]); first | done | rfl) ?_
           refine (spec_l1Own.calls A5 c5 l5 y _ (cb_ (rr_ HR5w.out).2.2 HWA.out) HC5.out AY.out).mono ?_
           rintro e w31 ⟨v31, rfl, ho31, hb31⟩
           refine ⟨_, rfl, ?_⟩
           obtain ⟨A1, c1, rfl⟩ := rs_ ho31
           have HW1 := am_ (bp_ HWA.out hb31)
           have HR1 := am_ (Kd.R_lower ho31 (HWA.out).size)
           refine hK.out _ _ (HSOF.out _ HW1.out) (fun hHeld => ?_)
           clear hK K
           refine norm_ (a' := ?_) ?_ ?_
           rotate_left
           ·
            show Act.put _ (some 66) _ = _
            simp only [Act.put, List.setIfInBounds_toArray, List.set_cons_zero, List.set_cons_succ, i64_w, i32_w]
            rfl
           exact norm_ (by first | (simp only [putAll, Act.put, List.setIfInBounds_toArray, List.set_cons_zero, List.set_cons_succ]; done) | (simp only [putAll, Act.put, List.setIfInBounds_toArray, List.set_cons_zero, List.set_cons_succ]; rfl)) (hJ (A1, c1, wr.drew.heap.size) _ ⟨HR1.out, kb_ hnew hb31, HW1.out⟩)
         ·
          rintro ⟨A1, c1, n1⟩ w32 ⟨hr1, hn1, hb1⟩
          have HW2 := am_ hb1
          have HR1 := am_ hr1
          have HN1 := am_ hn1
          clear hr1 hn1 hb1 hHeld
          have hHeld := HSOF.out _ HW2.out
          refine norm_ (a' := ?_) ?_ ?_
          rotate_left
          ·
           simp only [putAll, Act.put, List.setIfInBounds_toArray, List.set_cons_zero, List.set_cons_succ]
           rfl
          refine one_ (i := 16) (N := some 69) #[true, true, true, true, true, true, true, true, true, true, true, true, true, true, true, true, true, true, true, true, true, true, true, true, true, false, false, true, false, false] rfl rfl (one_of HT_.out (by kernel_rfl)) (by decide) (fun K hK => ?_)
          refine try_grows (w0 := wr) (.slice A1 y.length c1) y q (l2 := y ++ [q]) rfl (by rfl) _ _ (by rfl) HR1.out (by rfl) n1 (by rfl) HN1.out HW2.out E12.out ?_
          intro A2 c2 w33 ho33 hb33
          have HW3 := am_ hb33
          have HR2 := am_ ho33
          clear hb33 ho33
          refine hK.out _ _ (HSOF.out _ HW3.out) (fun hHeld => ?_)
          clear hK K
          refine norm_ (a' := ?_) ?_ ?_
          rotate_left
          ·
           show Act.put _ (some 69) _ = _
           simp only [Act.put, List.setIfInBounds_toArray, List.set_cons_zero, List.set_cons_succ, i64_w, i32_w]
           rfl
          refine one_ (i := 25) (N := some 78) #[true, true, true, true, true, true, true, true, true, true, true, true, true, true, true, true, true, true, true, true, true, true, true, true, true, true, false, true, false, false] rfl rfl (one_of HT_.out (by kernel_rfl)) (by decide) (fun K hK => ?_)
          refine goes_ Try.func32 (by kernel_rfl) rfl #[.slice Ai (rd_L2 l0 (l5.length : Int)).length ci, .int .i64 a1, .int .i64 a2, .int .i64 q] (by rfl) rfl rfl (by (try simp only [List.map_toArray, List.map_cons, List.map_nil]); first | done | rfl) ?_
          refine (spec_l5Cost.calls k1 Ai ci (rd_L2 l0 (l5.length : Int)) a1 a2 q c _ (cb_ HRI.out HW3.out) HLI.out AC.out).mono ?_
          rintro e w34 ⟨rfl, ⟨nd, rfl⟩⟩
          refine ⟨_, rfl, ?_⟩
          have HW4 := am_ (pw_below_drewN HW3.out nd)
          refine hK.out _ _ (HSOF.out _ HW4.out) (fun hHeld => ?_)
          clear hK K
          refine norm_ (a' := ?_) ?_ ?_
          rotate_left
          ·
           show Act.put _ (some 78) _ = _
           simp only [Act.put, List.setIfInBounds_toArray, List.set_cons_zero, List.set_cons_succ, i64_w, i32_w]
           rfl
          refine pure_ (i := 26) (N := some 79) (v := ?_) (a' := ?_) #[true, true, true, true, true, true, true, true, true, true, true, true, true, true, true, true, true, true, true, true, true, true, true, true, true, true, true, true, false, false] rfl rfl (any_of HT_.out (by kernel_rfl)) (fun _ _ _ h => h) (Or.inl ⟨by rfl, ?_⟩) ?_ ?_
          rotate_left
          ·
           intro w'
           go_simp
           with_reducible rfl
          rotate_left
          ·
           simp only [Act.put, List.setIfInBounds_toArray, List.set_cons_zero, List.set_cons_succ, i64_w, i32_w]
           rfl
          refine one_ (i := 28) (N := some 81) #[true, true, true, true, true, true, true, true, true, true, true, true, true, true, true, true, true, true, true, true, true, true, true, true, true, true, true, true, true, false] rfl rfl (one_of HT_.out (by kernel_rfl)) (by decide) (fun K hK => ?_)
          refine goes_ Try.func30 (by kernel_rfl) rfl #[.slice (some adG) l0.length c0, .int .i64 a1, .int .i64 a2, .slice (some adP) l3.length c3, .int .i64 (wrap64 (a4 - wrap64 (q * rd l3 (l5.length : Int)))), .slice A2 (y ++ [q]).length c2, .int .i64 (wrap64 (a6 + c)), .agg #[.slice Aq bq.length cq, .int .i64 tq, .bool uq]] (by rfl) rfl rfl (by (try simp only [List.map_toArray, List.map_cons, List.map_nil]); first | done | rfl) ?_
          refine (ih k1 (by have := HK1.out; omega) base (some adG) c0 l0 a1 a2 (some adP) c3 l3 _ A2 c2 (y ++ [q]) _ Aq cq bq tq uq b1 t1 u1 _ (cb_ HR0.out (bp_ HB.out HW4.out)) HC0.out (cb_ HR3.out (bp_ HB.out HW4.out)) HC3.out (Kd.R_lower (rn_ HR2.out nd) HBASEw.out) (rb_ HRBq.out HW4.out) (Nat.le_trans HBASEw.out HW4.out.size) AB1.out).mono ?_
          rintro e w35 ⟨A4, c4, rfl, hr4, hb4⟩
          refine ⟨_, rfl, ?_⟩
          have HW5 := am_ (bp_ HW4.out hb4)
          have HR4 := am_ hr4
          clear hr4 hb4
          refine hK.out _ _ (HSOF.out _ HW5.out) (fun hHeld => ?_)
          clear hK K
          refine norm_ (a' := ?_) ?_ ?_
          rotate_left
          ·
           show Act.put _ (some 81) _ = _
           simp only [Act.put, List.setIfInBounds_toArray, List.set_cons_zero, List.set_cons_succ, i64_w, i32_w]
           rfl
          have BK15w := am_ (kb_ BK15.out HW5.out)
          have BK16w := am_ (kb_ BK16.out HW5.out)
          clear hc15_0 hc15_1 hc15_2 hF15_0 hF15_1 hF15_2
          have hc15_0 : w35.cell? ⟨g15, 0, none⟩ = some (.slice Aq bq.length cq) := (kc_ BK15w.out 0).trans rfl
          have hf15_0 : w35.frozen? ⟨g15, 0, none⟩ = false := kf_ BK15w.out 0
          have hc15_1 : w35.cell? ⟨g15, 1, none⟩ = some (.int .i64 tq) := (kc_ BK15w.out 1).trans rfl
          have hf15_1 : w35.frozen? ⟨g15, 1, none⟩ = false := kf_ BK15w.out 1
          have hc15_2 : w35.cell? ⟨g15, 2, none⟩ = some (.bool uq) := (kc_ BK15w.out 2).trans rfl
          have hf15_2 : w35.frozen? ⟨g15, 2, none⟩ = false := kf_ BK15w.out 2
          refine last_ (i := 29) (N := none) #[true, true, true, true, true, true, true, true, true, true, true, true, true, true, true, true, true, true, true, true, true, true, true, true, true, true, true, true, true, true] rfl rfl (one_of HT_.out (by kernel_rfl)) (by decide) (fun K hK => ?_)
          refine skip_ (w1 := (((w35.setCell ⟨g15, 0, none⟩ (.slice A4 b1.length c4)).setCell ⟨g15, 1, none⟩ (.int .i64 t1)).setCell ⟨g15, 2, none⟩ (.bool u1))) (by rfl) rfl (by first | (go_simp; done) | (go_simp; rfl)) ?_
          refine hK.out _ _ ?_
          clear hK K
          refine done_ (done_of HT_.out (by kernel_rfl)) ?_
          have HBf := am_ (show Below w.heap.size w (((w35.setCell ⟨g15, 0, none⟩ (.slice A4 b1.length c4)).setCell ⟨g15, 1, none⟩ (.int .i64 t1)).setCell ⟨g15, 2, none⟩ (.bool u1)) from bs_ (bs_ (bs_ (bp_ HB.out HW5.out) (by have := GE15.out; have := L16.out; omega)) (by have := GE15.out; have := L16.out; omega)) (by have := GE15.out; have := L16.out; omega))
          have BK15f := am_ (show (((w35.setCell ⟨g15, 0, none⟩ (.slice A4 b1.length c4)).setCell ⟨g15, 1, none⟩ (.int .i64 t1)).setCell ⟨g15, 2, none⟩ (.bool u1)).heap[g15]? = some (.cells #[.slice A4 b1.length c4, .int .i64 t1, .bool u1] 56 (0, 0)) from blk_put (blk_put (blk_put (BK15w.out) 0 _ rfl) 1 _ rfl) 2 _ rfl)
          have BK16f := am_ (show (((w35.setCell ⟨g15, 0, none⟩ (.slice A4 b1.length c4)).setCell ⟨g15, 1, none⟩ (.int .i64 t1)).setCell ⟨g15, 2, none⟩ (.bool u1)).heap[g16]? = some (.cells #[.slice none 0 0, .int .i64 0, .bool false] 56 (0, 0)) from blk_far (blk_far (blk_far BK16w.out (by have := L16.out; simp only []; omega) _) (by have := L16.out; simp only []; omega) _) (by have := L16.out; simp only []; omega) _)
          have HRf := am_ (try_set3 HR4.out BK15w.out (.slice A4 b1.length c4) (.int .i64 t1) (.bool u1))
          clear hc15_0 hc15_1 hc15_2 hf15_0 hf15_1 hf15_2 hHeld
          generalize (((w35.setCell ⟨g15, 0, none⟩ (.slice A4 b1.length c4)).setCell ⟨g15, 1, none⟩ (.int .i64 t1)).setCell ⟨g15, 2, none⟩ (.bool u1)) = wf at HBf BK15f BK16f HRf ⊢
          go_wp2
          go_roundg k1
          case measure => have := HK1.out; omega
          case rel => exact ⟨wrap64 (q + 1), b1, t1, u1, A4, c4, rfl, H', ⟨by have := HK1.out; omega⟩, HBf, BK15f, BK16f, HRf⟩
        ·
         rw [if_neg e12] at H
         exact absurd H (by simp)
       ·
        rw [if_neg e11] at H
        exact absurd H (by simp)
      ·
       rw [if_neg e10] at H
       have e10b0 : decide (wrap64 (q * rd l3 (l5.length : Int)) ≤ a4) = false := decide_eq_false e10
       clear e10
       simp only [Option.some.injEq, Prod.mk.injEq] at H
       obtain ⟨rfl, rfl, rfl⟩ := H
       have hc15_0 : wr.cell? ⟨g15, 0, none⟩ = some (.slice Aq bq.length cq) := (kc_ BK15.out 0).trans rfl; have hf15_0 : wr.frozen? ⟨g15, 0, none⟩ = false := kf_ BK15.out 0; have hc15_1 : wr.cell? ⟨g15, 1, none⟩ = some (.int .i64 tq) := (kc_ BK15.out 1).trans rfl; have hf15_1 : wr.frozen? ⟨g15, 1, none⟩ = false := kf_ BK15.out 1; have hc15_2 : wr.cell? ⟨g15, 2, none⟩ = some (.bool uq) := (kc_ BK15.out 2).trans rfl; have hf15_2 : wr.frozen? ⟨g15, 2, none⟩ = false := kf_ BK15.out 2
       have hc16_0 : wr.cell? ⟨g16, 0, none⟩ = some (.slice none 0 0) := (kc_ BK16.out 0).trans rfl; have hf16_0 : wr.frozen? ⟨g16, 0, none⟩ = false := kf_ BK16.out 0; have hc16_1 : wr.cell? ⟨g16, 1, none⟩ = some (.int .i64 0) := (kc_ BK16.out 1).trans rfl; have hf16_1 : wr.frozen? ⟨g16, 1, none⟩ = false := kf_ BK16.out 1; have hc16_2 : wr.cell? ⟨g16, 2, none⟩ = some (.bool false) := (kc_ BK16.out 2).trans rfl; have hf16_2 : wr.frozen? ⟨g16, 2, none⟩ = false := kf_ BK16.out 2
       go_wp2_with (first | ((with_reducible refine gate_store (t := 56) (p := 16) rfl ?_); refine store_event (t := 56) (p := 16) (v := .tmp 82) (w1 := (((wr.setCell ⟨g16, 0, none⟩ (.slice Aq bq.length cq)).setCell ⟨g16, 1, none⟩ (.int .i64 tq)).setCell ⟨g16, 2, none⟩ (.bool uq))) ?hg ?ho ?hn ?hr ?_; (case ho => rfl); (case hg => rfl); (case hn => rfl); (case hr => first | (go_simp; done) | (go_simp; rfl)); intro w17 hw17; have BK16b := am_ (by rw [hw17]; exact blk_put (blk_put (blk_put (BK16.out) 0 _ rfl) 1 _ rfl) 2 _ rfl : w17.heap[g16]? = some (.cells #[.slice Aq bq.length cq, .int .i64 tq, .bool uq] 56 (0, 0))); have hRq17 : Kd.R (Kd.int .i64) 3 w17 base (fun _ => True) (.slice Aq bq.length cq) bq := (by rw [hw17]; exact try_set3 HRBq.out BK16.out _ _ _); have n_ := am_ (by rw [hw17]; exact bs_ (bs_ (bs_ (by repeat (first | (with_reducible first | exact HB.out | apply ba_ | apply pw_below_drewN | apply bd_) | exact HB.out)) (by have := GE15.out; have := L16.out; omega)) (by have := GE15.out; have := L16.out; omega)) (by have := GE15.out; have := L16.out; omega) : Below w.heap.size w w17); clear HB; have HB := n_; clear n_ hw17))
       (try simp only [Exit.inBlock, Exit.then])
       refine bodyPost_ret (results_cell_row rfl _ _ g16 56 #[.slice Aq bq.length cq, .int .i64 tq, .bool uq] (0, 0) _ rfl (BK16b.out) Try.underlying56 rfl (by kernel_rfl)) rfl ?_
       exact ⟨_, _, rfl, hRq17, HB.out⟩
     ·
      rw [if_neg e9] at H
      exact absurd H (by simp)
    ·
     rw [if_neg e8] at H
     have e8b0 : decide (q ≤ 15) = false := decide_eq_false e8
     clear e8
     simp only [Option.some.injEq, Prod.mk.injEq] at H
     obtain ⟨rfl, rfl, rfl⟩ := H
     have hc15_0 : wr.cell? ⟨g15, 0, none⟩ = some (.slice Aq bq.length cq) := (kc_ BK15.out 0).trans rfl; have hf15_0 : wr.frozen? ⟨g15, 0, none⟩ = false := kf_ BK15.out 0; have hc15_1 : wr.cell? ⟨g15, 1, none⟩ = some (.int .i64 tq) := (kc_ BK15.out 1).trans rfl; have hf15_1 : wr.frozen? ⟨g15, 1, none⟩ = false := kf_ BK15.out 1; have hc15_2 : wr.cell? ⟨g15, 2, none⟩ = some (.bool uq) := (kc_ BK15.out 2).trans rfl; have hf15_2 : wr.frozen? ⟨g15, 2, none⟩ = false := kf_ BK15.out 2
     have hc16_0 : wr.cell? ⟨g16, 0, none⟩ = some (.slice none 0 0) := (kc_ BK16.out 0).trans rfl; have hf16_0 : wr.frozen? ⟨g16, 0, none⟩ = false := kf_ BK16.out 0; have hc16_1 : wr.cell? ⟨g16, 1, none⟩ = some (.int .i64 0) := (kc_ BK16.out 1).trans rfl; have hf16_1 : wr.frozen? ⟨g16, 1, none⟩ = false := kf_ BK16.out 1; have hc16_2 : wr.cell? ⟨g16, 2, none⟩ = some (.bool false) := (kc_ BK16.out 2).trans rfl; have hf16_2 : wr.frozen? ⟨g16, 2, none⟩ = false := kf_ BK16.out 2
     go_wp2_with (first | ((with_reducible refine gate_store (t := 56) (p := 16) rfl ?_); refine store_event (t := 56) (p := 16) (v := .tmp 82) (w1 := (((wr.setCell ⟨g16, 0, none⟩ (.slice Aq bq.length cq)).setCell ⟨g16, 1, none⟩ (.int .i64 tq)).setCell ⟨g16, 2, none⟩ (.bool uq))) ?hg ?ho ?hn ?hr ?_; (case ho => rfl); (case hg => rfl); (case hn => rfl); (case hr => first | (go_simp; done) | (go_simp; rfl)); intro w17 hw17; have BK16b := am_ (by rw [hw17]; exact blk_put (blk_put (blk_put (BK16.out) 0 _ rfl) 1 _ rfl) 2 _ rfl : w17.heap[g16]? = some (.cells #[.slice Aq bq.length cq, .int .i64 tq, .bool uq] 56 (0, 0))); have hRq17 : Kd.R (Kd.int .i64) 3 w17 base (fun _ => True) (.slice Aq bq.length cq) bq := (by rw [hw17]; exact try_set3 HRBq.out BK16.out _ _ _); have n_ := am_ (by rw [hw17]; exact bs_ (bs_ (bs_ (by repeat (first | (with_reducible first | exact HB.out | apply ba_ | apply pw_below_drewN | apply bd_) | exact HB.out)) (by have := GE15.out; have := L16.out; omega)) (by have := GE15.out; have := L16.out; omega)) (by have := GE15.out; have := L16.out; omega) : Below w.heap.size w w17); clear HB; have HB := n_; clear n_ hw17))
     (try simp only [Exit.inBlock, Exit.then])
     refine bodyPost_ret (results_cell_row rfl _ _ g16 56 #[.slice Aq bq.length cq, .int .i64 tq, .bool uq] (0, 0) _ rfl (BK16b.out) Try.underlying56 rfl (by kernel_rfl)) rfl ?_
     exact ⟨_, _, rfl, hRq17, HB.out⟩
/- spec_BudgetOrders: function 7 -/
def spec_BudgetOrders.f (k : Nat) (l0 : List (List Int)) (a1 : Int) (a2 : Int) (l3 : List Int) (a4 : Int) : Option (List Int × Bool) := (spec_l5Goods.f k l0).bind fun t1 => (if t1 = true then ((spec_l5Charges.f a1 a2).bind fun t2 => (if t2 = true then ((spec_l2Row.f k l3 (l0.length : Int) 20).bind fun t3 => (if t3 = true then ((spec_l1In.f a4 0 60).bind fun t4 => (if t4 = true then ((spec_l5Try.f k l0 a1 a2 l3 a4 [] 0 [] 0 false).bind fun bt => (some (bt.1, true))) else (some (([] : List Int), false)))) else (some (([] : List Int), false)))) else (some (([] : List Int), false)))) else (some (([] : List Int), false)))
theorem spec_BudgetOrders.mono : ∀ a0 a1 a2 a3 a4 k, LeO (spec_BudgetOrders.f k a0 a1 a2 a3 a4) (spec_BudgetOrders.f (k + 1) a0 a1 a2 a3 a4) := by
 intro a0 a1 a2 a3 a4 k
 unfold spec_BudgetOrders.f
 repeat' first
   | (with_reducible exact spec_l5Try.mono _ _ _ _ _ _ _ _ _ _ _)
   | (with_reducible exact spec_l5Goods.mono _ _)
   | (with_reducible exact spec_l2Row.mono _ _ _ _)
   | (with_reducible exact LeO.refl _)
   | (with_reducible exact LeO.none _)
   | (with_reducible refine LeO.ite ?_ ?_)
   | (with_reducible refine LeO.bind ?_ (fun _ => ?_))
   | exact LeO.refl _
theorem try_field (A : Option Addr) (n c : Nat) (t : Int) (u : Bool) (w : World) : (Instr.field 56 (.agg #[.slice A n c, .int .i64 t, .bool u]) 0).run Try.prog w = .ok (.slice A n c) w := by kernel_rfl
attribute [local go_sem] try_field
set_option maxHeartbeats 8000000 in
set_option maxRecDepth 100000 in
theorem spec_BudgetOrders.calls (k : Nat) (A0 : Option Addr) (c0 : Nat) (l0 : List (List Int)) (a1 : Int) (a2 : Int) (A3 : Option Addr) (c3 : Nat) (l3 : List Int) (a4 : Int) (r1 : List Int) (r2 : Bool) (w : World) (hr0 : Kd.C (Kd.slice 3 (Kd.int .i64)) w A0 l0.length l0) (hc0 : l0.length ≤ c0) (hr3 : Kd.C (Kd.int .i64) w A3 l3.length l3) (hc3 : l3.length ≤ c3) (h : spec_BudgetOrders.f k l0 a1 a2 l3 a4 = some (r1, r2)) :
  Calls Try.prog 7 #[.slice A0 l0.length c0, .int .i64 a1, .int .i64 a2, .slice A3 l3.length c3, .int .i64 a4] w fun e w' => ∃ v0_ : Value, e = .returned (.tuple #[v0_, .bool r2]) ∧ Kd.R (Kd.int .i64) 3 w' w.heap.size (fun _ => True) v0_ r1 ∧ Below w.heap.size w w' := by
 have HR0 := am_ hr0
 have HC0 := am_ hc0
 have HR3 := am_ hr3
 have HC3 := am_ hc3
 have HB := am_ (Below.refl w.heap.size w)
 clear hr0 hc0 hr3 hc3
 unfold spec_BudgetOrders.f at h
 obtain ⟨t1_, A10, H⟩ := Option.bind_eq_some_iff.mp h
 clear h
 have A1 := am_ A10
 clear A10
 by_cases e0 : t1_ = true
 ·
  subst e0
  rw [if_pos rfl] at H
  obtain ⟨t2_, AX0, H⟩ := Option.bind_eq_some_iff.mp H
  have A2 := am_ AX0
  clear AX0
  by_cases e1 : t2_ = true
  ·
   subst e1
   rw [if_pos rfl] at H
   obtain ⟨t3_, AX0, H⟩ := Option.bind_eq_some_iff.mp H
   have A3_ := am_ AX0
   clear AX0
   by_cases e2 : t3_ = true
   ·
    subst e2
    rw [if_pos rfl] at H
    obtain ⟨t4_, AX0, H⟩ := Option.bind_eq_some_iff.mp H
    have A4 := am_ AX0
    clear AX0
    by_cases e3 : t4_ = true
    ·
     subst e3
     rw [if_pos rfl] at H
     obtain ⟨⟨b1, t1, u1⟩, AX0, H⟩ := Option.bind_eq_some_iff.mp H
     have A5 := am_ AX0
     clear AX0
     simp only [Option.some.injEq, Prod.mk.injEq] at H
     obtain ⟨rfl, rfl⟩ := H
     go_enter Try.func7, Try.ntmps7
     go_wp2_with (first | (go_at_call 26; (with_reducible refine (spec_l5Goods.calls k A0 c0 l0 true _ ?s1 ?s2 A1.out).mono ?_); (case s1 => exact cb_ HR0.out (by repeat (first | (with_reducible first | exact HB.out | apply ba_ | apply pw_below_drewN | apply bd_) | exact HB.out))); (case s2 => exact HC0.out); rintro e w' ⟨rfl, ⟨nd1, rfl⟩⟩) | (go_at_call 27; (with_reducible refine (spec_l5Charges.calls a1 a2 true _ A2.out).mono ?_); rintro e w' ⟨rfl, ⟨nd2, rfl⟩⟩) | (go_at_call 28; (with_reducible refine (spec_l2Row.calls k A3 c3 l3 (l0.length : Int) 20 true _ ?s1 ?s2 A3_.out).mono ?_); (case s1 => exact cb_ HR3.out (by repeat (first | (with_reducible first | exact HB.out | apply ba_ | apply pw_below_drewN | apply bd_) | exact HB.out))); (case s2 => exact HC3.out); rintro e w' ⟨rfl, ⟨nd3, rfl⟩⟩) | (go_at_call 29; (with_reducible refine (spec_l1In.calls a4 0 60 true _ A4.out).mono ?_); rintro e w' ⟨rfl, ⟨nd4, rfl⟩⟩) | ((with_reducible refine gate_dst (N := 39) rfl ?_); refine Kd.R_lit (Kd.int .i64) _ 3 ?hg (N := 39) ?hd (xs := ([] : List Int)) (inner := []) (ok := fun _ => True) (okp := fun _ => True) ?hr ?hp (fun _ hk => hk) trivial (Below.refl _ _) (Nat.le_refl _) (by simp) ?_; (case hd => rfl); (case hg => rfl); (case hr => first | (go_simp; done) | (go_simp; rfl)); (case hp => exact (Reps.none _ _)); intro v39 w39 ho39 hb39 hg_ hnew_; clear hg_ hnew_; have HO39 := am_ (Kd.R_lower ho39 (bz_ (by repeat (first | (with_reducible first | exact HB.out | apply ba_ | apply pw_below_drewN | apply bd_) | exact HB.out)))); have n_ := am_ (bp_ (by repeat (first | (with_reducible first | exact HB.out | apply ba_ | apply pw_below_drewN | apply bd_) | exact HB.out)) hb39); clear HB; have HB := n_; clear n_ hb39 ho39; obtain ⟨A39, c39, e39⟩ := rs_ HO39.out; subst e39) | ((with_reducible refine gc_ (f := 30) rfl ?_); refine goesL_ (some 41) rfl rfl Try.func30 (by kernel_rfl) rfl #[.slice A0 l0.length c0, .int .i64 a1, .int .i64 a2, .slice A3 l3.length c3, .int .i64 a4, .slice A39 ([] : List Int).length c39, .int .i64 0, .agg #[.slice none 0 0, .int .i64 0, .bool false]] rfl (by (try simp only [List.map_toArray, List.map_cons, List.map_nil]); first | done | rfl) ?_; refine (spec_l5Try.calls k w.heap.size A0 c0 l0 a1 a2 A3 c3 l3 a4 A39 c39 [] 0 none 0 [] 0 false b1 t1 u1 _ (cb_ HR0.out HB.out) HC0.out (cb_ HR3.out HB.out) HC3.out HO39.out (Kd.R_nil _ _ _ _ _) HB.out.size A5.out).mono ?_; rintro e w41 ⟨A41, c41, rfl, hr41, hb41⟩; refine ⟨_, rfl, ?_⟩; have HR41 := am_ hr41; have n_ := am_ (bp_ HB.out hb41); clear HB; have HB := n_; clear n_ hr41 hb41))
     go_ret2
     exact ⟨_, rfl, HR41.out, HB.out⟩
    ·
     replace e3 := Bool.eq_false_iff.mpr e3
     subst e3
     rw [if_neg (show ¬ (false = true) by decide)] at H
     simp only [Option.some.injEq, Prod.mk.injEq] at H
     obtain ⟨rfl, rfl⟩ := H
     go_enter Try.func7, Try.ntmps7
     go_wp2_with (first | (go_at_call 26; (with_reducible refine (spec_l5Goods.calls k A0 c0 l0 true _ ?s1 ?s2 A1.out).mono ?_); (case s1 => exact cb_ HR0.out (by repeat (first | (with_reducible first | exact HB.out | apply ba_ | apply pw_below_drewN | apply bd_) | exact HB.out))); (case s2 => exact HC0.out); rintro e w' ⟨rfl, ⟨nd1, rfl⟩⟩) | (go_at_call 27; (with_reducible refine (spec_l5Charges.calls a1 a2 true _ A2.out).mono ?_); rintro e w' ⟨rfl, ⟨nd2, rfl⟩⟩) | (go_at_call 28; (with_reducible refine (spec_l2Row.calls k A3 c3 l3 (l0.length : Int) 20 true _ ?s1 ?s2 A3_.out).mono ?_); (case s1 => exact cb_ HR3.out (by repeat (first | (with_reducible first | exact HB.out | apply ba_ | apply pw_below_drewN | apply bd_) | exact HB.out))); (case s2 => exact HC3.out); rintro e w' ⟨rfl, ⟨nd3, rfl⟩⟩) | (go_at_call 29; (with_reducible refine (spec_l1In.calls a4 0 60 false _ A4.out).mono ?_); rintro e w' ⟨rfl, ⟨nd4, rfl⟩⟩) | ((with_reducible refine gate_dst (N := 33) rfl ?_); refine Kd.R_lit (Kd.int .i64) _ 3 ?hg (N := 33) ?hd (xs := ([] : List Int)) (inner := []) (ok := fun _ => True) (okp := fun _ => True) ?hr ?hp (fun _ hk => hk) trivial (Below.refl _ _) (Nat.le_refl _) (by simp) ?_; (case hd => rfl); (case hg => rfl); (case hr => first | (go_simp; done) | (go_simp; rfl)); (case hp => exact (Reps.none _ _)); intro v39 w39 ho39 hb39 hg_ hnew_; clear hg_ hnew_; have HO39 := am_ (Kd.R_lower ho39 (bz_ (by repeat (first | (with_reducible first | exact HB.out | apply ba_ | apply pw_below_drewN | apply bd_) | exact HB.out)))); have n_ := am_ (bp_ (by repeat (first | (with_reducible first | exact HB.out | apply ba_ | apply pw_below_drewN | apply bd_) | exact HB.out)) hb39); clear HB; have HB := n_; clear n_ hb39 ho39; obtain ⟨A39, c39, e39⟩ := rs_ HO39.out; subst e39))
     go_ret2
     exact ⟨_, rfl, HO39.out, (by repeat (first | (with_reducible first | exact HB.out | apply ba_ | apply pw_below_drewN | apply bd_) | exact HB.out))⟩
   ·
    replace e2 := Bool.eq_false_iff.mpr e2
    subst e2
    rw [if_neg (show ¬ (false = true) by decide)] at H
    simp only [Option.some.injEq, Prod.mk.injEq] at H
    obtain ⟨rfl, rfl⟩ := H
    go_enter Try.func7, Try.ntmps7
    go_wp2_with (first | (go_at_call 26; (with_reducible refine (spec_l5Goods.calls k A0 c0 l0 true _ ?s1 ?s2 A1.out).mono ?_); (case s1 => exact cb_ HR0.out (by repeat (first | (with_reducible first | exact HB.out | apply ba_ | apply pw_below_drewN | apply bd_) | exact HB.out))); (case s2 => exact HC0.out); rintro e w' ⟨rfl, ⟨nd1, rfl⟩⟩) | (go_at_call 27; (with_reducible refine (spec_l5Charges.calls a1 a2 true _ A2.out).mono ?_); rintro e w' ⟨rfl, ⟨nd2, rfl⟩⟩) | (go_at_call 28; (with_reducible refine (spec_l2Row.calls k A3 c3 l3 (l0.length : Int) 20 false _ ?s1 ?s2 A3_.out).mono ?_); (case s1 => exact cb_ HR3.out (by repeat (first | (with_reducible first | exact HB.out | apply ba_ | apply pw_below_drewN | apply bd_) | exact HB.out))); (case s2 => exact HC3.out); rintro e w' ⟨rfl, ⟨nd3, rfl⟩⟩) | ((with_reducible refine gate_dst (N := 33) rfl ?_); refine Kd.R_lit (Kd.int .i64) _ 3 ?hg (N := 33) ?hd (xs := ([] : List Int)) (inner := []) (ok := fun _ => True) (okp := fun _ => True) ?hr ?hp (fun _ hk => hk) trivial (Below.refl _ _) (Nat.le_refl _) (by simp) ?_; (case hd => rfl); (case hg => rfl); (case hr => first | (go_simp; done) | (go_simp; rfl)); (case hp => exact (Reps.none _ _)); intro v39 w39 ho39 hb39 hg_ hnew_; clear hg_ hnew_; have HO39 := am_ (Kd.R_lower ho39 (bz_ (by repeat (first | (with_reducible first | exact HB.out | apply ba_ | apply pw_below_drewN | apply bd_) | exact HB.out)))); have n_ := am_ (bp_ (by repeat (first | (with_reducible first | exact HB.out | apply ba_ | apply pw_below_drewN | apply bd_) | exact HB.out)) hb39); clear HB; have HB := n_; clear n_ hb39 ho39; obtain ⟨A39, c39, e39⟩ := rs_ HO39.out; subst e39))
    go_ret2
    exact ⟨_, rfl, HO39.out, (by repeat (first | (with_reducible first | exact HB.out | apply ba_ | apply pw_below_drewN | apply bd_) | exact HB.out))⟩
  ·
   replace e1 := Bool.eq_false_iff.mpr e1
   subst e1
   rw [if_neg (show ¬ (false = true) by decide)] at H
   simp only [Option.some.injEq, Prod.mk.injEq] at H
   obtain ⟨rfl, rfl⟩ := H
   go_enter Try.func7, Try.ntmps7
   go_wp2_with (first | (go_at_call 26; (with_reducible refine (spec_l5Goods.calls k A0 c0 l0 true _ ?s1 ?s2 A1.out).mono ?_); (case s1 => exact cb_ HR0.out (by repeat (first | (with_reducible first | exact HB.out | apply ba_ | apply pw_below_drewN | apply bd_) | exact HB.out))); (case s2 => exact HC0.out); rintro e w' ⟨rfl, ⟨nd1, rfl⟩⟩) | (go_at_call 27; (with_reducible refine (spec_l5Charges.calls a1 a2 false _ A2.out).mono ?_); rintro e w' ⟨rfl, ⟨nd2, rfl⟩⟩) | ((with_reducible refine gate_dst (N := 33) rfl ?_); refine Kd.R_lit (Kd.int .i64) _ 3 ?hg (N := 33) ?hd (xs := ([] : List Int)) (inner := []) (ok := fun _ => True) (okp := fun _ => True) ?hr ?hp (fun _ hk => hk) trivial (Below.refl _ _) (Nat.le_refl _) (by simp) ?_; (case hd => rfl); (case hg => rfl); (case hr => first | (go_simp; done) | (go_simp; rfl)); (case hp => exact (Reps.none _ _)); intro v39 w39 ho39 hb39 hg_ hnew_; clear hg_ hnew_; have HO39 := am_ (Kd.R_lower ho39 (bz_ (by repeat (first | (with_reducible first | exact HB.out | apply ba_ | apply pw_below_drewN | apply bd_) | exact HB.out)))); have n_ := am_ (bp_ (by repeat (first | (with_reducible first | exact HB.out | apply ba_ | apply pw_below_drewN | apply bd_) | exact HB.out)) hb39); clear HB; have HB := n_; clear n_ hb39 ho39; obtain ⟨A39, c39, e39⟩ := rs_ HO39.out; subst e39))
   go_ret2
   exact ⟨_, rfl, HO39.out, (by repeat (first | (with_reducible first | exact HB.out | apply ba_ | apply pw_below_drewN | apply bd_) | exact HB.out))⟩
 ·
  replace e0 := Bool.eq_false_iff.mpr e0
  subst e0
  rw [if_neg (show ¬ (false = true) by decide)] at H
  simp only [Option.some.injEq, Prod.mk.injEq] at H
  obtain ⟨rfl, rfl⟩ := H
  go_enter Try.func7, Try.ntmps7
  go_wp2_with (first | (go_at_call 26; (with_reducible refine (spec_l5Goods.calls k A0 c0 l0 false _ ?s1 ?s2 A1.out).mono ?_); (case s1 => exact cb_ HR0.out (by repeat (first | (with_reducible first | exact HB.out | apply ba_ | apply pw_below_drewN | apply bd_) | exact HB.out))); (case s2 => exact HC0.out); rintro e w' ⟨rfl, ⟨nd1, rfl⟩⟩) | ((with_reducible refine gate_dst (N := 33) rfl ?_); refine Kd.R_lit (Kd.int .i64) _ 3 ?hg (N := 33) ?hd (xs := ([] : List Int)) (inner := []) (ok := fun _ => True) (okp := fun _ => True) ?hr ?hp (fun _ hk => hk) trivial (Below.refl _ _) (Nat.le_refl _) (by simp) ?_; (case hd => rfl); (case hg => rfl); (case hr => first | (go_simp; done) | (go_simp; rfl)); (case hp => exact (Reps.none _ _)); intro v39 w39 ho39 hb39 hg_ hnew_; clear hg_ hnew_; have HO39 := am_ (Kd.R_lower ho39 (bz_ (by repeat (first | (with_reducible first | exact HB.out | apply ba_ | apply pw_below_drewN | apply bd_) | exact HB.out)))); have n_ := am_ (bp_ (by repeat (first | (with_reducible first | exact HB.out | apply ba_ | apply pw_below_drewN | apply bd_) | exact HB.out)) hb39); clear HB; have HB := n_; clear n_ hb39 ho39; obtain ⟨A39, c39, e39⟩ := rs_ HO39.out; subst e39))
  go_ret2
  exact ⟨_, rfl, HO39.out, (by repeat (first | (with_reducible first | exact HB.out | apply ba_ | apply pw_below_drewN | apply bd_) | exact HB.out))⟩
/-! ### spec_DrawStepOrders: function 8 -/
def spec_DrawStepOrders.f (k : Nat) (l0 : List Int) : Option ((List (List Int)) × Int × Int × Int) := (spec_newCur.f l0).bind fun bt348 => ((spec_l1Cur_goods.f k bt348.1 bt348.2.1 bt348.2.2).bind fun bt352 => ((spec_l1Cur_charge.f bt348.1 bt352.2.1 bt352.2.2).bind fun bt357 => ((spec_l1Cur_charge.f bt348.1 bt357.2.1 bt357.2.2).bind fun bt360 => ((some (([5, 8, 3, 12, 0, 60, 61, (-1)] : List Int) : List Int)).bind fun y363 => ((spec_l1Cur_pick.f bt348.1 bt360.2.1 bt360.2.2 24).bind fun bt366 => (if 0 ≤ (wrap64 (6 + (wrap64 (Int.tdiv bt366.1 11)))) then (if (wrap64 (6 + (wrap64 (Int.tdiv bt366.1 11)))) ≤ (y363.length : Int) then ((spec_l1Cur_among.f bt348.1 bt366.2.1 bt366.2.2 (y363.take ((wrap64 (6 + (wrap64 (Int.tdiv bt366.1 11)))) : Int).toNat)).bind fun bt372 => (some (bt352.1, bt357.1, bt360.1, bt372.1))) else (none)) else (none)))))))
theorem spec_DrawStepOrders.mono : ∀ a0 k, LeO (spec_DrawStepOrders.f k a0) (spec_DrawStepOrders.f (k + 1) a0) := by
 intro a0 k
 unfold spec_DrawStepOrders.f
 repeat' first
   | (with_reducible exact spec_l1Cur_goods.mono _ _ _ _)
   | (with_reducible exact LeO.refl _)
   | (with_reducible exact LeO.none _)
   | (with_reducible refine LeO.ite ?_ ?_)
   | (with_reducible refine LeO.bind ?_ (fun _ => ?_))
   | exact spec_l1Cur_goods.mono _ _ _ _
   | exact LeO.none _
   | refine LeO.ite ?_ ?_
   | refine LeO.bind ?_ (fun _ => ?_)
set_option maxHeartbeats 8000000 in
set_option maxRecDepth 100000 in
theorem spec_DrawStepOrders.calls (k : Nat) (A0 : Option Addr) (c0 : Nat) (l0 : List Int) (r1 : List (List Int)) (r2 : Int) (r3 : Int) (r4 : Int) (w : World) (hr0 : Kd.C (Kd.int .u8) w A0 l0.length l0) (hc0 : l0.length ≤ c0) (h : spec_DrawStepOrders.f k l0 = some (r1, r2, r3, r4)) :
  Calls Try.prog 8 #[.slice A0 l0.length c0] w fun e w' => ∃ v0_ : Value, e = .returned (.tuple #[v0_, .int .i64 r2, .int .i64 r3, .int .i64 r4]) ∧ Kd.S (Kd.slice 3 (Kd.int .i64)) 25 w' w.heap.size (fun _ => True) v0_ r1 ∧ Below w.heap.size w w' := by
 have HR0 := am_ hr0
 have HC0 := am_ hc0
 clear hr0 hc0
 have HB := am_ (Below.refl w.heap.size w)
 have H : ((spec_newCur.f l0).bind fun bt348 => ((spec_l1Cur_goods.f k bt348.1 bt348.2.1 bt348.2.2).bind fun bt352 => ((spec_l1Cur_charge.f bt348.1 bt352.2.1 bt352.2.2).bind fun bt357 => ((spec_l1Cur_charge.f bt348.1 bt357.2.1 bt357.2.2).bind fun bt360 => ((some (([5, 8, 3, 12, 0, 60, 61, (-1)] : List Int) : List Int)).bind fun y363 => ((spec_l1Cur_pick.f bt348.1 bt360.2.1 bt360.2.2 24).bind fun bt366 => (if 0 ≤ (wrap64 (6 + (wrap64 (Int.tdiv bt366.1 11)))) then (if (wrap64 (6 + (wrap64 (Int.tdiv bt366.1 11)))) ≤ (y363.length : Int) then ((spec_l1Cur_among.f bt348.1 bt366.2.1 bt366.2.2 (y363.take ((wrap64 (6 + (wrap64 (Int.tdiv bt366.1 11)))) : Int).toNat)).bind fun bt372 => (some (bt352.1, bt357.1, bt360.1, bt372.1))) else (none)) else (none)))))))) = some (r1, r2, r3, r4) := h
 clear h
 replace H := Option.bind_eq_some_iff.mp H
 obtain ⟨⟨t348, t349, t350⟩, A20, H⟩ := H
 replace H : ((spec_l1Cur_goods.f k t348 t349 t350).bind fun bt352 => ((spec_l1Cur_charge.f t348 bt352.2.1 bt352.2.2).bind fun bt357 => ((spec_l1Cur_charge.f t348 bt357.2.1 bt357.2.2).bind fun bt360 => ((some (([5, 8, 3, 12, 0, 60, 61, (-1)] : List Int) : List Int)).bind fun y363 => ((spec_l1Cur_pick.f t348 bt360.2.1 bt360.2.2 24).bind fun bt366 => (if 0 ≤ (wrap64 (6 + (wrap64 (Int.tdiv bt366.1 11)))) then (if (wrap64 (6 + (wrap64 (Int.tdiv bt366.1 11)))) ≤ (y363.length : Int) then ((spec_l1Cur_among.f t348 bt366.2.1 bt366.2.2 (y363.take ((wrap64 (6 + (wrap64 (Int.tdiv bt366.1 11)))) : Int).toNat)).bind fun bt372 => (some (bt352.1, bt357.1, bt360.1, bt372.1))) else (none)) else (none))))))) = some (r1, r2, r3, r4) := H
 have A2 := am_ A20
 clear A20
 replace H := Option.bind_eq_some_iff.mp H
 obtain ⟨⟨t352, t355, t356⟩, A30, H⟩ := H
 replace H : ((spec_l1Cur_charge.f t348 t355 t356).bind fun bt357 => ((spec_l1Cur_charge.f t348 bt357.2.1 bt357.2.2).bind fun bt360 => ((some (([5, 8, 3, 12, 0, 60, 61, (-1)] : List Int) : List Int)).bind fun y363 => ((spec_l1Cur_pick.f t348 bt360.2.1 bt360.2.2 24).bind fun bt366 => (if 0 ≤ (wrap64 (6 + (wrap64 (Int.tdiv bt366.1 11)))) then (if (wrap64 (6 + (wrap64 (Int.tdiv bt366.1 11)))) ≤ (y363.length : Int) then ((spec_l1Cur_among.f t348 bt366.2.1 bt366.2.2 (y363.take ((wrap64 (6 + (wrap64 (Int.tdiv bt366.1 11)))) : Int).toNat)).bind fun bt372 => (some (t352, bt357.1, bt360.1, bt372.1))) else (none)) else (none)))))) = some (r1, r2, r3, r4) := H
 have A3 := am_ A30
 clear A30
 replace H := Option.bind_eq_some_iff.mp H
 obtain ⟨⟨t357, t358, t359⟩, A40, H⟩ := H
 replace H : ((spec_l1Cur_charge.f t348 t358 t359).bind fun bt360 => ((some (([5, 8, 3, 12, 0, 60, 61, (-1)] : List Int) : List Int)).bind fun y363 => ((spec_l1Cur_pick.f t348 bt360.2.1 bt360.2.2 24).bind fun bt366 => (if 0 ≤ (wrap64 (6 + (wrap64 (Int.tdiv bt366.1 11)))) then (if (wrap64 (6 + (wrap64 (Int.tdiv bt366.1 11)))) ≤ (y363.length : Int) then ((spec_l1Cur_among.f t348 bt366.2.1 bt366.2.2 (y363.take ((wrap64 (6 + (wrap64 (Int.tdiv bt366.1 11)))) : Int).toNat)).bind fun bt372 => (some (t352, t357, bt360.1, bt372.1))) else (none)) else (none))))) = some (r1, r2, r3, r4) := H
 have A4 := am_ A40
 clear A40
 replace H := Option.bind_eq_some_iff.mp H
 obtain ⟨⟨t360, t361, t362⟩, A50, H⟩ := H
 replace H : ((some (([5, 8, 3, 12, 0, 60, 61, (-1)] : List Int) : List Int)).bind fun y363 => ((spec_l1Cur_pick.f t348 t361 t362 24).bind fun bt366 => (if 0 ≤ (wrap64 (6 + (wrap64 (Int.tdiv bt366.1 11)))) then (if (wrap64 (6 + (wrap64 (Int.tdiv bt366.1 11)))) ≤ (y363.length : Int) then ((spec_l1Cur_among.f t348 bt366.2.1 bt366.2.2 (y363.take ((wrap64 (6 + (wrap64 (Int.tdiv bt366.1 11)))) : Int).toNat)).bind fun bt372 => (some (t352, t357, t360, bt372.1))) else (none)) else (none)))) = some (r1, r2, r3, r4) := H
 have A5 := am_ A50
 clear A50
 obtain ⟨y363, hy363⟩ : ∃ y_ : List Int, y_ = (([5, 8, 3, 12, 0, 60, 61, (-1)] : List Int)) := ⟨_, rfl⟩
 replace H : ((spec_l1Cur_pick.f t348 t361 t362 24).bind fun bt366 => (if 0 ≤ (wrap64 (6 + (wrap64 (Int.tdiv bt366.1 11)))) then (if (wrap64 (6 + (wrap64 (Int.tdiv bt366.1 11)))) ≤ (y363.length : Int) then ((spec_l1Cur_among.f t348 bt366.2.1 bt366.2.2 (y363.take ((wrap64 (6 + (wrap64 (Int.tdiv bt366.1 11)))) : Int).toNat)).bind fun bt372 => (some (t352, t357, t360, bt372.1))) else (none)) else (none))) = some (r1, r2, r3, r4) := by first | (rw [hy363]; with_reducible exact H) | (have H2_ := (Option.bind_some _ _).symm.trans H; rw [hy363]; with_reducible exact H2_) | (have H2_ := (Option.bind_some _ _).symm.trans H; with_reducible exact H2_) | with_reducible exact H | (rw [hy363]; exact H) | exact H
 have Ny363 := am_ hy363
 clear hy363
 replace H := Option.bind_eq_some_iff.mp H
 obtain ⟨⟨t366, t367, t368⟩, A60, H⟩ := H
 replace H : (if 0 ≤ (wrap64 (6 + (wrap64 (Int.tdiv t366 11)))) then (if (wrap64 (6 + (wrap64 (Int.tdiv t366 11)))) ≤ (y363.length : Int) then ((spec_l1Cur_among.f t348 t367 t368 (y363.take ((wrap64 (6 + (wrap64 (Int.tdiv t366 11)))) : Int).toNat)).bind fun bt372 => (some (t352, t357, t360, bt372.1))) else (none)) else (none)) = some (r1, r2, r3, r4) := H
 have A6 := am_ A60
 clear A60
 obtain ⟨ji7, hji7⟩ : ∃ j_ : Int, (wrap64 (6 + (wrap64 (Int.tdiv t366 11)))) = j_ := ⟨_, rfl⟩
 replace H : (if 0 ≤ (ji7) then (if (ji7) ≤ (y363.length : Int) then ((spec_l1Cur_among.f t348 t367 t368 (y363.take ((ji7) : Int).toNat)).bind fun bt372 => (some (t352, t357, t360, bt372.1))) else (none)) else (none)) = some (r1, r2, r3, r4) := by first | (rw [hji7] at H; exact H) | (simp only [hji7] at H ⊢; exact H)
 (try rw [hji7] at A2)
 (try rw [hji7] at A3)
 (try rw [hji7] at A4)
 (try rw [hji7] at A5)
 (try rw [hji7] at A6)
 have hji7w : (IntKind.i64.wrap (6 + (wrap64 (Int.tdiv t366 11)))) = ji7 := (i64_w _).trans hji7
 by_cases c8 : 0 ≤ (ji7)
 ·
  rw [if_pos c8] at H
  have c8b0 := eq_true c8
  have c8b1 : decide (0 ≤ (ji7)) = true := decide_eq_true c8
  clear c8
  by_cases c9 : (ji7) ≤ (y363.length : Int)
  ·
   rw [if_pos c9] at H
   have c9b0 := eq_true c9
   have c9b1 : decide ((ji7) ≤ (y363.length : Int)) = true := decide_eq_true c9
   clear c9
   obtain ⟨y369, hy369⟩ : ∃ y_ : List Int, y_ = (y363.take ((ji7) : Int).toNat) := ⟨_, rfl⟩
   replace H : ((spec_l1Cur_among.f t348 t367 t368 y369).bind fun bt372 => (some (t352, t357, t360, bt372.1))) = some (r1, r2, r3, r4) := by first | (rw [hy369]; with_reducible exact H) | (have H2_ := (Option.bind_some _ _).symm.trans H; rw [hy369]; with_reducible exact H2_) | (have H2_ := (Option.bind_some _ _).symm.trans H; with_reducible exact H2_) | with_reducible exact H | (rw [hy369]; exact H) | exact H
   have Ny369 := am_ hy369
   clear hy369
   replace H := Option.bind_eq_some_iff.mp H
   obtain ⟨⟨t372, t373, t374⟩, A100, H⟩ := H
   replace H : (some (t352, t357, t360, t372)) = some (r1, r2, r3, r4) := H
   have A10 := am_ A100
   clear A100
   simp only [Option.some.injEq, Prod.mk.injEq] at H
   obtain ⟨rfl, rfl, rfl, rfl⟩ := H
   go_enter Try.func8, Try.ntmps8
   go_wp2_with (first | ((with_reducible refine gate_dst (N := 9) rfl ?_); refine box_event ?hg (N := 9) ?hd (cs := #[.slice A0 l0.length c0, .int .i64 0, .int .u64 0]) (t := 41) ?hr ?_; (case hd => rfl); (case hg => rfl); (case hr => first | (go_simp; done) | (go_simp; rfl)); intro g351 hg w11 hbox hb2; have hb := bp_ (by repeat (first | (with_reducible first | exact HB.out | apply ba_ | apply pw_below_drewN | apply bd_) | exact HB.out)) hb2; have hi := newCur_is A2.out hbox (by rw [hg]; exact bz_ (by repeat (first | (with_reducible first | exact HB.out | apply ba_ | apply pw_below_drewN | apply bd_) | exact HB.out))) (by exact HR0.out); clear hbox hg; have n0_ := am_ (hb); have n1_ := am_ (hi); clear HB; have HB := n0_; have HI351 := n1_; clear n0_ n1_; (try clear hb); (try clear hb2); (try clear hk); (try clear hi)) | ((with_reducible refine gc_ (f := 15) rfl ?_); refine goesL_ (some 11) rfl rfl Try.func15 (by kernel_rfl) rfl #[.pointer (some ⟨g351, 0, none⟩)] rfl (by (try simp only [List.map_toArray, List.map_cons, List.map_nil]); first | done | rfl | (simp only [List.length_drop, List.length_take]; rfl)) ?_; (with_reducible refine (spec_l1Cur_goods.calls k g351 t348 t349 t350 t352 t355 t356 w _ ?side1 ?side2 A3.out).mono ?_); (case side1 => repeat (first | (with_reducible first | exact HI351.out | apply IsS41.alloc | apply IsS41.drewN | apply IsS41.drew | apply IsS41.set_1 | apply IsS41.set_2) | exact HI351.out)); (case side2 => repeat (first | (with_reducible first | exact HB.out | apply ba_ | apply pw_below_drewN | apply bd_ | refine bs_ ?_ (IsS41.ge HI351.out)) | exact HB.out)); rintro e w12 ⟨v353, rfl, ho0, hi, hb, hk⟩; refine ⟨_, rfl, ?_⟩; have n0_ := am_ (Kd.S_lower ho0 (bz_ (by repeat (first | (with_reducible first | exact HB.out | apply ba_ | apply pw_below_drewN | apply bd_ | refine bs_ ?_ (IsS41.ge HI351.out)) | exact HB.out)))); have n1_ := am_ (hb); have n2_ := am_ (hi); clear HB; clear HI351; have HO354 := n0_; have HB := n1_; have HI351 := n2_; clear n0_ n1_ n2_; (try clear hb); (try clear hb2); (try clear hk); (try clear hi); (try clear ho0)) | ((with_reducible refine gc_ (f := 18) rfl ?_); refine goesL_ (some 13) rfl rfl Try.func18 (by kernel_rfl) rfl #[.pointer (some ⟨g351, 0, none⟩)] rfl (by (try simp only [List.map_toArray, List.map_cons, List.map_nil]); first | done | rfl | (simp only [List.length_drop, List.length_take]; rfl)) ?_; (with_reducible refine (spec_l1Cur_charge.calls g351 t348 t355 t356 t357 t358 t359 w _ ?side1 ?side2 A4.out).mono ?_); (case side1 => repeat (first | (with_reducible first | exact HI351.out | apply IsS41.alloc | apply IsS41.drewN | apply IsS41.drew | apply IsS41.set_1 | apply IsS41.set_2) | exact HI351.out)); (case side2 => repeat (first | (with_reducible first | exact HB.out | apply ba_ | apply pw_below_drewN | apply bd_ | refine bs_ ?_ (IsS41.ge HI351.out)) | exact HB.out)); rintro e w13 ⟨rfl, hi, hb, hk⟩; refine ⟨_, rfl, ?_⟩; have n0_ := am_ (Kd.S_mono (Kd.S_keep (IsS41.apartS (show IsS41 w _ g351 t348 t355 t356 from by repeat (first | (with_reducible first | exact HI351.out | apply IsS41.alloc | apply IsS41.drewN | apply IsS41.drew | apply IsS41.set_1 | apply IsS41.set_2) | exact HI351.out)) (by (with_reducible repeat (first | apply sa_ | apply sn_ | apply sd_)); exact HO354.out) (by decide)) hk (fun _ h => h.2)) (fun _ h => h.1)); have n1_ := am_ (hb); have n2_ := am_ (hi); clear HO354; clear HB; clear HI351; have HO354 := n0_; have HB := n1_; have HI351 := n2_; clear n0_ n1_ n2_; (try clear hb); (try clear hb2); (try clear hk); (try clear hi)) | ((with_reducible refine gc_ (f := 18) rfl ?_); refine goesL_ (some 15) rfl rfl Try.func18 (by kernel_rfl) rfl #[.pointer (some ⟨g351, 0, none⟩)] rfl (by (try simp only [List.map_toArray, List.map_cons, List.map_nil]); first | done | rfl | (simp only [List.length_drop, List.length_take]; rfl)) ?_; (with_reducible refine (spec_l1Cur_charge.calls g351 t348 t358 t359 t360 t361 t362 w _ ?side1 ?side2 A5.out).mono ?_); (case side1 => repeat (first | (with_reducible first | exact HI351.out | apply IsS41.alloc | apply IsS41.drewN | apply IsS41.drew | apply IsS41.set_1 | apply IsS41.set_2) | exact HI351.out)); (case side2 => repeat (first | (with_reducible first | exact HB.out | apply ba_ | apply pw_below_drewN | apply bd_ | refine bs_ ?_ (IsS41.ge HI351.out)) | exact HB.out)); rintro e w14 ⟨rfl, hi, hb, hk⟩; refine ⟨_, rfl, ?_⟩; have n0_ := am_ (Kd.S_mono (Kd.S_keep (IsS41.apartS (show IsS41 w _ g351 t348 t358 t359 from by repeat (first | (with_reducible first | exact HI351.out | apply IsS41.alloc | apply IsS41.drewN | apply IsS41.drew | apply IsS41.set_1 | apply IsS41.set_2) | exact HI351.out)) (by (with_reducible repeat (first | apply sa_ | apply sn_ | apply sd_)); exact HO354.out) (by decide)) hk (fun _ h => h.2)) (fun _ h => h.1)); have n1_ := am_ (hb); have n2_ := am_ (hi); clear HO354; clear HB; clear HI351; have HO354 := n0_; have HB := n1_; have HI351 := n2_; clear n0_ n1_ n2_; (try clear hb); (try clear hb2); (try clear hk); (try clear hi)) | ((with_reducible refine gate_dst (N := 17) rfl ?_); refine Kd.R_lit (Kd.int .i64) _ 3 ?hg (N := 17) ?hd (xs := ([5, 8, 3, 12, 0, 60, 61, (-1)] : List Int)) (inner := [.int .i64 5, .int .i64 8, .int .i64 3, .int .i64 12, .int .i64 0, .int .i64 60, .int .i64 61, .int .i64 (-1)]) (ok := fun _ => True) (okp := fun _ => True) ?hr ?hp (fun _ hk => hk) trivial (Below.refl _ _) (Nat.le_refl _) (by simp) ?_; (case hd => rfl); (case hg => rfl); (case hr => first | (go_simp; done) | (go_simp; rfl)); (case hp => exact (Reps.one (show Kd.M (Kd.int .i64) _ _ _ 5 [.int .i64 5] from rfl) (Reps.one (show Kd.M (Kd.int .i64) _ _ _ 8 [.int .i64 8] from rfl) (Reps.one (show Kd.M (Kd.int .i64) _ _ _ 3 [.int .i64 3] from rfl) (Reps.one (show Kd.M (Kd.int .i64) _ _ _ 12 [.int .i64 12] from rfl) (Reps.one (show Kd.M (Kd.int .i64) _ _ _ 0 [.int .i64 0] from rfl) (Reps.one (show Kd.M (Kd.int .i64) _ _ _ 60 [.int .i64 60] from rfl) (Reps.one (show Kd.M (Kd.int .i64) _ _ _ 61 [.int .i64 61] from rfl) (Reps.one (show Kd.M (Kd.int .i64) _ _ _ (-1) [.int .i64 (-1)] from rfl) (Reps.none _ _)))))))))); intro v364 w15 ho16 hb hg_ hnew_; clear hg_ hnew_; (first | rw [← Ny363.out] at ho16 | (simp only [Int.reduceToNat] at ho16; rw [← Ny363.out] at ho16)); have n0_ := am_ (Kd.S_elder' (by (with_reducible repeat (first | apply sa_ | apply sn_ | apply sd_)); exact HO354.out) (Kd.R_base ho16) hb); have n1_ := am_ (Kd.R_lower ho16 (bz_ (by repeat (first | (with_reducible first | exact HB.out | apply ba_ | apply pw_below_drewN | apply bd_ | refine bs_ ?_ (IsS41.ge HI351.out)) | exact HB.out)))); have n2_ := am_ (IsS41.below (by repeat (first | (with_reducible first | exact HI351.out | apply IsS41.alloc | apply IsS41.drewN | apply IsS41.drew | apply IsS41.set_1 | apply IsS41.set_2) | exact HI351.out)) hb); have n3_ := am_ (bp_ (by repeat (first | (with_reducible first | exact HB.out | apply ba_ | apply pw_below_drewN | apply bd_ | refine bs_ ?_ (IsS41.ge HI351.out)) | exact HB.out)) hb); clear HO354; clear HI351; clear HB; have HO354 := n0_; have HO365 := n1_; have HI351 := n2_; have HB := n3_; clear n0_ n1_ n2_ n3_; clear hb ho16) | ((with_reducible refine gc_ (f := 19) rfl ?_); refine goesL_ (some 19) rfl rfl Try.func19 (by kernel_rfl) rfl #[.pointer (some ⟨g351, 0, none⟩), .int .i64 24] rfl (by (try simp only [List.map_toArray, List.map_cons, List.map_nil]); first | done | rfl | (simp only [List.length_drop, List.length_take]; rfl)) ?_; (with_reducible refine (spec_l1Cur_pick.calls g351 t348 t361 t362 24 t366 t367 t368 w _ ?side1 ?side2 A6.out).mono ?_); (case side1 => repeat (first | (with_reducible first | exact HI351.out | apply IsS41.alloc | apply IsS41.drewN | apply IsS41.drew | apply IsS41.set_1 | apply IsS41.set_2) | exact HI351.out)); (case side2 => repeat (first | (with_reducible first | exact HB.out | apply ba_ | apply pw_below_drewN | apply bd_ | refine bs_ ?_ (IsS41.ge HI351.out)) | exact HB.out)); rintro e w17 ⟨rfl, hi, hb, hk⟩; refine ⟨_, rfl, ?_⟩; have n0_ := am_ (Kd.S_mono (Kd.S_keep (IsS41.apartS (show IsS41 w _ g351 t348 t361 t362 from by repeat (first | (with_reducible first | exact HI351.out | apply IsS41.alloc | apply IsS41.drewN | apply IsS41.drew | apply IsS41.set_1 | apply IsS41.set_2) | exact HI351.out)) (by (with_reducible repeat (first | apply sa_ | apply sn_ | apply sd_)); exact HO354.out) (by decide)) hk (fun _ h => h.2)) (fun _ h => h.1)); have n1_ := am_ (Kd.R_mono (Kd.R_keep (IsS41.apart (show IsS41 w _ g351 t348 t361 t362 from by repeat (first | (with_reducible first | exact HI351.out | apply IsS41.alloc | apply IsS41.drewN | apply IsS41.drew | apply IsS41.set_1 | apply IsS41.set_2) | exact HI351.out)) (by (with_reducible repeat (first | apply ra_ | apply rn_ | apply rd_)); exact HO365.out) (by decide)) hk (fun _ h => h.2)) (fun _ h => h.1)); have n2_ := am_ (hb); have n3_ := am_ (hi); clear HO354; clear HO365; clear HB; clear HI351; have HO354 := n0_; have HO365 := n1_; have HB := n2_; have HI351 := n3_; clear n0_ n1_ n2_ n3_; (try clear hb); (try clear hb2); (try clear hk); (try clear hi); obtain ⟨Ao18, co18, eo18⟩ := rs_ HO365.out; subst eo18; have q19 : ((ji7) : Int) ≤ ((y363.length : Int) : Int) := of_decide_eq_true (by first | (with_reducible assumption) | assumption); obtain ⟨i019, hi019, _, hsz19, _⟩ := info_parts info3; have hcut19 := cut_to (P := Try.prog) 25 3 .i64 Try.underlying25 hi019 Ao18 y363.length co18 (ji7) (of_decide_eq_true (by first | (with_reducible assumption) | assumption)) q19 (rr_ HO365.out).2.1; have hr19 := Kd.R_take (m := ((ji7) : Int).toNat) HO365.out (by omega); have hy19 : y369.length = ((ji7) : Int).toNat := (by rw [Ny369.out, List.length_take]; omega); rw [← Ny369.out] at hr19; rw [← hy19] at hr19 hcut19; clear hy19 hi019 hsz19 HO365; have HO371 := am_ hr19; clear hr19; replace q19 := eq_true q19) | ((with_reducible refine gc_ (f := 16) rfl ?_); refine goesL_ (some 23) rfl rfl Try.func16 (by kernel_rfl) rfl #[.pointer (some ⟨g351, 0, none⟩), .slice Ao18 y369.length co18] rfl (by (try simp only [List.map_toArray, List.map_cons, List.map_nil]); first | done | rfl | (simp only [List.length_drop, List.length_take]; rfl)) ?_; (with_reducible refine (spec_l1Cur_among.calls g351 t348 t367 t368 _ _ y369 t372 t373 t374 w _ ?side1 ?side2 ?side3 ?side4 ?side5 A10.out).mono ?_); (case side1 => repeat (first | (with_reducible first | exact HI351.out | apply IsS41.alloc | apply IsS41.drewN | apply IsS41.drew | apply IsS41.set_1 | apply IsS41.set_2) | exact HI351.out)); (case side2 => repeat (first | (with_reducible first | exact HB.out | apply ba_ | apply pw_below_drewN | apply bd_ | refine bs_ ?_ (IsS41.ge HI351.out)) | exact HB.out)); (case side3 => repeat (first | exact (rr_ HO371.out).2.2 | (with_reducible refine ca_ ?_ _) | (with_reducible refine cn_ ?_ _) | (with_reducible refine cd_ ?_))); (case side4 => exact (rr_ HO371.out).2.1); (case side5 => exact far_slice (IsS41.own_ne HI351.out HO371.out (by decide))); rintro e w20 ⟨rfl, hi, hb, hk⟩; refine ⟨_, rfl, ?_⟩; have n0_ := am_ (Kd.S_mono (Kd.S_keep (IsS41.apartS (show IsS41 w _ g351 t348 t367 t368 from by repeat (first | (with_reducible first | exact HI351.out | apply IsS41.alloc | apply IsS41.drewN | apply IsS41.drew | apply IsS41.set_1 | apply IsS41.set_2) | exact HI351.out)) (by (with_reducible repeat (first | apply sa_ | apply sn_ | apply sd_)); exact HO354.out) (by decide)) hk (fun _ h => h.2)) (fun _ h => h.1)); have n1_ := am_ (Kd.R_mono (Kd.R_keep (IsS41.apart (show IsS41 w _ g351 t348 t367 t368 from by repeat (first | (with_reducible first | exact HI351.out | apply IsS41.alloc | apply IsS41.drewN | apply IsS41.drew | apply IsS41.set_1 | apply IsS41.set_2) | exact HI351.out)) (by (with_reducible repeat (first | apply ra_ | apply rn_ | apply rd_)); exact HO371.out) (by decide)) hk (fun _ h => h.2)) (fun _ h => h.1)); have n2_ := am_ (hb); have n3_ := am_ (hi); clear HO354; clear HO371; clear HB; clear HI351; have HO354 := n0_; have HO371 := n1_; have HB := n2_; have HI351 := n3_; clear n0_ n1_ n2_ n3_; (try clear hb); (try clear hb2); (try clear hk); (try clear hi)))
   refine bodyPost_ret (results_list (rs := [.tmp 2, .tmp 3, .tmp 4, .tmp 5]) rfl (by simp) (.tmp (.tmp (.tmp (.tmp .nil))))) rfl ?_
   exact ⟨_, by first | rfl | (simp [errW_none, errW_some] <;> rfl) | (simp only [← hji7]; first | rfl | (simp [errW_none, errW_some] <;> rfl)) | (simp [*, errW_none, errW_some] <;> rfl), by (with_reducible repeat (first | apply sa_ | apply sn_ | apply sd_)); exact Kd.S_mono HO354.out (fun _ hk => trivial), by repeat (first | (with_reducible first | exact HB.out | apply ba_ | apply pw_below_drewN | apply bd_ | refine bs_ ?_ (IsS41.ge HI351.out)) | exact HB.out)⟩
  ·
   rw [if_neg c9] at H
   exact absurd H (by simp)
 ·
  rw [if_neg c8] at H
  exact absurd H (by simp)

/-! ### laws_vCut: function 9 -/
def laws_vCut.f (l0 : List Int) (a1 : Int) : Option (List Int) := if a1 > (l0.length : Int) then ((some (([] : List Int) : List Int)).bind fun y375 => (if 0 ≤ (l0.length : Int) then (if (l0.length : Int) ≤ (l0.length : Int) then (if y375.length + (l0.drop ((l0.length : Int) : Int).toNat).length < 140737488355328 then ((some (y375 ++ (l0.drop ((l0.length : Int) : Int).toNat) : List Int)).bind fun y379 => (if y379.length < 140737488355328 then (some (y379 ++ [((l0.length : Int)) % 256])) else (none))) else (none)) else (none)) else (none))) else ((some (([] : List Int) : List Int)).bind fun y385 => (if 0 ≤ a1 then (if a1 ≤ (l0.length : Int) then (if y385.length + (l0.drop (a1 : Int).toNat).length < 140737488355328 then ((some (y385 ++ (l0.drop (a1 : Int).toNat) : List Int)).bind fun y389 => (if y389.length < 140737488355328 then (some (y389 ++ [(a1) % 256])) else (none))) else (none)) else (none)) else (none)))
set_option maxHeartbeats 8000000 in
set_option maxRecDepth 100000 in
theorem laws_vCut.calls (A0 : Option Addr) (c0 : Nat) (l0 : List Int) (a1 : Int) (r : List Int) (w : World) (hr0 : Kd.C (Kd.int .u8) w A0 l0.length l0) (hc0 : l0.length ≤ c0) (h : laws_vCut.f l0 a1 = some r) :
  Calls Try.prog 9 #[.slice A0 l0.length c0, .int .i64 a1] w fun e w' => ∃ v0_ : Value, e = .returned (v0_) ∧ Kd.R (Kd.int .u8) 5 w' w.heap.size (fun _ => True) v0_ r ∧ Below w.heap.size w w' := by
 have HR0 := am_ hr0
 have HC0 := am_ hc0
 clear hr0 hc0
 have HB := am_ (Below.refl w.heap.size w)
 have H : (if a1 > (l0.length : Int) then ((some (([] : List Int) : List Int)).bind fun y375 => (if 0 ≤ (l0.length : Int) then (if (l0.length : Int) ≤ (l0.length : Int) then (if y375.length + (l0.drop ((l0.length : Int) : Int).toNat).length < 140737488355328 then ((some (y375 ++ (l0.drop ((l0.length : Int) : Int).toNat) : List Int)).bind fun y379 => (if y379.length < 140737488355328 then (some (y379 ++ [((l0.length : Int)) % 256])) else (none))) else (none)) else (none)) else (none))) else ((some (([] : List Int) : List Int)).bind fun y385 => (if 0 ≤ a1 then (if a1 ≤ (l0.length : Int) then (if y385.length + (l0.drop (a1 : Int).toNat).length < 140737488355328 then ((some (y385 ++ (l0.drop (a1 : Int).toNat) : List Int)).bind fun y389 => (if y389.length < 140737488355328 then (some (y389 ++ [(a1) % 256])) else (none))) else (none)) else (none)) else (none)))) = some r := h
 clear h
 by_cases c3 : a1 > (l0.length : Int)
 ·
  rw [if_pos c3] at H
  have c3b0 : decide ((l0.length : Int) < a1) = true := decide_eq_true c3
  clear c3
  obtain ⟨y375, hy375⟩ : ∃ y_ : List Int, y_ = (([] : List Int)) := ⟨_, rfl⟩
  replace H : (if 0 ≤ (l0.length : Int) then (if (l0.length : Int) ≤ (l0.length : Int) then (if y375.length + (l0.drop ((l0.length : Int) : Int).toNat).length < 140737488355328 then ((some (y375 ++ (l0.drop ((l0.length : Int) : Int).toNat) : List Int)).bind fun y379 => (if y379.length < 140737488355328 then (some (y379 ++ [((l0.length : Int)) % 256])) else (none))) else (none)) else (none)) else (none)) = some r := by first | (rw [hy375]; with_reducible exact H) | (have H2_ := (Option.bind_some _ _).symm.trans H; rw [hy375]; with_reducible exact H2_) | (have H2_ := (Option.bind_some _ _).symm.trans H; with_reducible exact H2_) | with_reducible exact H | (rw [hy375]; exact H) | exact H
  have Ny375 := am_ hy375
  clear hy375
  by_cases c4 : 0 ≤ (l0.length : Int)
  ·
   rw [if_pos c4] at H
   have c4b0 := eq_true c4
   have c4b1 : decide (0 ≤ (l0.length : Int)) = true := decide_eq_true c4
   clear c4
   by_cases c5 : (l0.length : Int) ≤ (l0.length : Int)
   ·
    rw [if_pos c5] at H
    have c5b0 := eq_true c5
    have c5b1 : decide ((l0.length : Int) ≤ (l0.length : Int)) = true := decide_eq_true c5
    clear c5
    by_cases c6 : y375.length + (l0.drop ((l0.length : Int) : Int).toNat).length < 140737488355328
    ·
     rw [if_pos c6] at H
     have LMc6 := am_ c6
     clear c6
     obtain ⟨y379, hy379⟩ : ∃ y_ : List Int, y_ = (y375 ++ (l0.drop ((l0.length : Int) : Int).toNat)) := ⟨_, rfl⟩
     replace H : (if y379.length < 140737488355328 then (some (y379 ++ [((l0.length : Int)) % 256])) else (none)) = some r := by first | (rw [hy379]; with_reducible exact H) | (have H2_ := (Option.bind_some _ _).symm.trans H; rw [hy379]; with_reducible exact H2_) | (have H2_ := (Option.bind_some _ _).symm.trans H; with_reducible exact H2_) | with_reducible exact H | (rw [hy379]; exact H) | exact H
     have Ny379 := am_ hy379
     clear hy379
     by_cases c7 : y379.length < 140737488355328
     ·
      rw [if_pos c7] at H
      have LMc7 := am_ c7
      clear c7
      obtain ⟨y382, hy382⟩ : ∃ y_ : List Int, y_ = (y379 ++ [((l0.length : Int)) % 256]) := ⟨_, rfl⟩
      replace H : (some y382) = some r := by first | (rw [hy382]; with_reducible exact H) | (have H2_ := (Option.bind_some _ _).symm.trans H; rw [hy382]; with_reducible exact H2_) | (have H2_ := (Option.bind_some _ _).symm.trans H; with_reducible exact H2_) | with_reducible exact H | (rw [hy382]; exact H) | exact H
      have Ny382 := am_ hy382
      clear hy382
      obtain rfl := Option.some.inj H
      rw [show l0.drop ((l0.length : Int) : Int).toNat = [] by simp] at Ny379
      go_enter Try.func9, Try.ntmps9
      go_wp2_with (first | ((with_reducible refine gate_dst (N := 11) rfl ?_); refine Kd.R_lit (Kd.int .u8) _ 5 ?hg (N := 11) ?hd (xs := ([] : List Int)) (inner := []) (ok := fun _ => True) (okp := fun _ => True) ?hr ?hp (fun _ hk => hk) trivial (Below.refl _ _) (Nat.le_refl _) (by simp) ?_; (case hd => rfl); (case hg => rfl); (case hr => first | (go_simp; done) | (go_simp; rfl)); (case hp => exact (Reps.none _ _)); intro v376 w8 ho9 hb hg_ hnew_; clear hg_ hnew_; (first | rw [← Ny375.out] at ho9 | (simp only [Int.reduceToNat] at ho9; rw [← Ny375.out] at ho9)); have n0_ := am_ (Kd.R_lower ho9 (bz_ (by repeat (first | (with_reducible first | exact HB.out | apply ba_ | apply pw_below_drewN | apply bd_) | exact HB.out)))); have n1_ := am_ (bp_ (by repeat (first | (with_reducible first | exact HB.out | apply ba_ | apply pw_below_drewN | apply bd_) | exact HB.out)) hb); clear HB; have HO377 := n0_; have HB := n1_; clear n0_ n1_; clear hb ho9; obtain ⟨i010, hi010, _, hsz10, _⟩ := info_parts info5; obtain ⟨A10, hcut10, hA10, hC10⟩ := print_drop_of (P := Try.prog) (Value.int .u8) 0 22 5 .i64 Try.underlying22 hi010 hsz10 A0 c0 l0 (l0.length : Int) (of_decide_eq_true (by first | (with_reducible assumption) | assumption)) (of_decide_eq_true (by first | (with_reducible assumption) | assumption)) HC0.out; have HR378 := am_ (Kd.C_of_reads (h1 := fun _ => rfl) (hA10 _ (Kd.reads_of_C HR0.out))); have HC378 := am_ hC10; clear hA10 hC10 hi010 hsz10; rw [show l0.drop ((l0.length : Int) : Int).toNat = [] by simp] at HR378 HC378) | ((with_reducible refine gate_builtin (b := .append) (xs := #[.tmp 11, .tmp 14]) rfl ?_); at_builtin; refine Kd.R_append_rows (Kd.int .u8) (w0 := w) w.heap.size rfl (.tmp 11) (.tmp 14) 22 5 (.int .u8 0) 1 rfl Try.underlying22 info5 rfl (by decide) (by omega) v376 y375 ([] : List Int) _ _ _ (fun _ => True) (fun _ => False) rfl rfl ?aO ?aR (fun _ _ h => h) (fun _ h => h.elim) ?aF ?aB ?aS ?aL ?_; (case aR => (repeat (first | exact (cb_ HR378.out HB.out) | (with_reducible refine ca_ ?_ _) | (with_reducible refine cn_ ?_ _) | (with_reducible refine cd_ ?_)))); (case aB => exact (by repeat (first | (with_reducible first | exact HB.out | apply ba_ | apply pw_below_drewN | apply bd_) | exact HB.out))); (case aF => exact (fun _ _ => trivial)); (case aO => exact (by (with_reducible repeat (first | apply ra_ | apply rn_ | apply rd_)); exact HO377.out)); (case aS => exact (bz_ (by repeat (first | (with_reducible first | exact HB.out | apply ba_ | apply pw_below_drewN | apply bd_) | exact HB.out)))); (case aL => have := LMc6.out; (try simp only [List.length_nil]); omega); intro v380 w11 ho hb hg hat; rw [← Ny379.out] at ho; have n0_ := am_ (hb); have n1_ := am_ (ho); clear HB; clear HO377; have HB := n0_; have HO381 := n1_; clear n0_ n1_; clear ho hb hg hat) | ((with_reducible refine gate_builtin (b := .append) (xs := #[.tmp 15, .tmp 18]) rfl ?_); at_builtin; refine Kd.R_append (Kd.int .u8) (w0 := w) w.heap.size rfl (.tmp 15) (.tmp 18) 22 5 (.int .u8 0) 1 rfl Try.underlying22 info5 rfl (by decide) (by omega) v380 y379 (((l0.length : Int)) % 256) [.int .u8 (((l0.length : Int)) % 256)] (fun _ => True) (fun _ => False) rfl rfl ?aP (fun _ hk => hk.elim) ?aF ?aO ?aB ?aS ?aL ?_; (case aP => exact rfl); (case aB => exact (by repeat (first | (with_reducible first | exact HB.out | apply ba_ | apply pw_below_drewN | apply bd_) | exact HB.out))); (case aF => exact (fun _ _ => trivial)); (case aO => exact (by (with_reducible repeat (first | apply ra_ | apply rn_ | apply rd_)); exact HO381.out)); (case aS => exact (bz_ (by repeat (first | (with_reducible first | exact HB.out | apply ba_ | apply pw_below_drewN | apply bd_) | exact HB.out)))); (case aL => have := LMc7.out; omega); intro v383 w12 ho hb hg hat; rw [← Ny382.out] at ho; have n0_ := am_ (hb); have n1_ := am_ (ho); clear HB; clear HO381; have HB := n0_; have HO384 := n1_; clear n0_ n1_; clear ho hb hg hat))
      go_ret
      exact ⟨_, by first | rfl | (simp [errW_none, errW_some] <;> rfl) | (simp [*, errW_none, errW_some] <;> rfl), by (with_reducible repeat (first | apply ra_ | apply rn_ | apply rd_)); exact HO384.out, by repeat (first | (with_reducible first | exact HB.out | apply ba_ | apply pw_below_drewN | apply bd_) | exact HB.out)⟩
     ·
      rw [if_neg c7] at H
      exact absurd H (by simp)
    ·
     rw [if_neg c6] at H
     exact absurd H (by simp)
   ·
    rw [if_neg c5] at H
    exact absurd H (by simp)
  ·
   rw [if_neg c4] at H
   exact absurd H (by simp)
 ·
  rw [if_neg c3] at H
  have c3b0 : decide ((l0.length : Int) < a1) = false := decide_eq_false c3
  clear c3
  obtain ⟨y385, hy385⟩ : ∃ y_ : List Int, y_ = (([] : List Int)) := ⟨_, rfl⟩
  replace H : (if 0 ≤ a1 then (if a1 ≤ (l0.length : Int) then (if y385.length + (l0.drop (a1 : Int).toNat).length < 140737488355328 then ((some (y385 ++ (l0.drop (a1 : Int).toNat) : List Int)).bind fun y389 => (if y389.length < 140737488355328 then (some (y389 ++ [(a1) % 256])) else (none))) else (none)) else (none)) else (none)) = some r := by first | (rw [hy385]; with_reducible exact H) | (have H2_ := (Option.bind_some _ _).symm.trans H; rw [hy385]; with_reducible exact H2_) | (have H2_ := (Option.bind_some _ _).symm.trans H; with_reducible exact H2_) | with_reducible exact H | (rw [hy385]; exact H) | exact H
  have Ny385 := am_ hy385
  clear hy385
  by_cases c13 : 0 ≤ a1
  ·
   rw [if_pos c13] at H
   have c13b0 := eq_true c13
   have c13b1 : decide (0 ≤ a1) = true := decide_eq_true c13
   clear c13
   by_cases c14 : a1 ≤ (l0.length : Int)
   ·
    rw [if_pos c14] at H
    have c14b0 := eq_true c14
    have c14b1 : decide (a1 ≤ (l0.length : Int)) = true := decide_eq_true c14
    clear c14
    by_cases c15 : y385.length + (l0.drop (a1 : Int).toNat).length < 140737488355328
    ·
     rw [if_pos c15] at H
     have LMc15 := am_ c15
     clear c15
     obtain ⟨y389, hy389⟩ : ∃ y_ : List Int, y_ = (y385 ++ (l0.drop (a1 : Int).toNat)) := ⟨_, rfl⟩
     replace H : (if y389.length < 140737488355328 then (some (y389 ++ [(a1) % 256])) else (none)) = some r := by first | (rw [hy389]; with_reducible exact H) | (have H2_ := (Option.bind_some _ _).symm.trans H; rw [hy389]; with_reducible exact H2_) | (have H2_ := (Option.bind_some _ _).symm.trans H; with_reducible exact H2_) | with_reducible exact H | (rw [hy389]; exact H) | exact H
     have Ny389 := am_ hy389
     clear hy389
     by_cases c16 : y389.length < 140737488355328
     ·
      rw [if_pos c16] at H
      have LMc16 := am_ c16
      clear c16
      obtain ⟨y392, hy392⟩ : ∃ y_ : List Int, y_ = (y389 ++ [(a1) % 256]) := ⟨_, rfl⟩
      replace H : (some y392) = some r := by first | (rw [hy392]; with_reducible exact H) | (have H2_ := (Option.bind_some _ _).symm.trans H; rw [hy392]; with_reducible exact H2_) | (have H2_ := (Option.bind_some _ _).symm.trans H; with_reducible exact H2_) | with_reducible exact H | (rw [hy392]; exact H) | exact H
      have Ny392 := am_ hy392
      clear hy392
      obtain rfl := Option.some.inj H
      go_enter Try.func9, Try.ntmps9
      go_wp2_with (first | ((with_reducible refine gate_dst (N := 11) rfl ?_); refine Kd.R_lit (Kd.int .u8) _ 5 ?hg (N := 11) ?hd (xs := ([] : List Int)) (inner := []) (ok := fun _ => True) (okp := fun _ => True) ?hr ?hp (fun _ hk => hk) trivial (Below.refl _ _) (Nat.le_refl _) (by simp) ?_; (case hd => rfl); (case hg => rfl); (case hr => first | (go_simp; done) | (go_simp; rfl)); (case hp => exact (Reps.none _ _)); intro v386 w17 ho18 hb hg_ hnew_; clear hg_ hnew_; (first | rw [← Ny385.out] at ho18 | (simp only [Int.reduceToNat] at ho18; rw [← Ny385.out] at ho18)); have n0_ := am_ (Kd.R_lower ho18 (bz_ (by repeat (first | (with_reducible first | exact HB.out | apply ba_ | apply pw_below_drewN | apply bd_) | exact HB.out)))); have n1_ := am_ (bp_ (by repeat (first | (with_reducible first | exact HB.out | apply ba_ | apply pw_below_drewN | apply bd_) | exact HB.out)) hb); clear HB; have HO387 := n0_; have HB := n1_; clear n0_ n1_; clear hb ho18; obtain ⟨i019, hi019, _, hsz19, _⟩ := info_parts info5; obtain ⟨A19, hcut19, hA19, hC19⟩ := print_drop_of (P := Try.prog) (Value.int .u8) 0 22 5 .i64 Try.underlying22 hi019 hsz19 A0 c0 l0 a1 (of_decide_eq_true (by first | (with_reducible assumption) | assumption)) (of_decide_eq_true (by first | (with_reducible assumption) | assumption)) HC0.out; have HR388 := am_ (Kd.C_of_reads (h1 := fun _ => rfl) (hA19 _ (Kd.reads_of_C HR0.out))); have HC388 := am_ hC19; clear hA19 hC19 hi019 hsz19) | ((with_reducible refine gate_builtin (b := .append) (xs := #[.tmp 11, .tmp 14]) rfl ?_); at_builtin; refine Kd.R_append_rows (Kd.int .u8) (w0 := w) w.heap.size rfl (.tmp 11) (.tmp 14) 22 5 (.int .u8 0) 1 rfl Try.underlying22 info5 rfl (by decide) (by omega) v386 y385 (l0.drop (a1 : Int).toNat) _ _ _ (fun _ => True) (fun _ => False) rfl rfl ?aO ?aR (fun _ _ h => h) (fun _ h => h.elim) ?aF ?aB ?aS ?aL ?_; (case aR => first | (rw [← show (l0.drop (a1 : Int).toNat).length = (l0.length - a1.toNat) from List.length_drop]; repeat (first | exact (cb_ HR388.out HB.out) | (with_reducible refine ca_ ?_ _) | (with_reducible refine cn_ ?_ _) | (with_reducible refine cd_ ?_))) | (repeat (first | exact (cb_ HR388.out HB.out) | (with_reducible refine ca_ ?_ _) | (with_reducible refine cn_ ?_ _) | (with_reducible refine cd_ ?_)))); (case aB => exact (by repeat (first | (with_reducible first | exact HB.out | apply ba_ | apply pw_below_drewN | apply bd_) | exact HB.out))); (case aF => exact (fun _ _ => trivial)); (case aO => exact (by (with_reducible repeat (first | apply ra_ | apply rn_ | apply rd_)); exact HO387.out)); (case aS => exact (bz_ (by repeat (first | (with_reducible first | exact HB.out | apply ba_ | apply pw_below_drewN | apply bd_) | exact HB.out)))); (case aL => have := LMc15.out; have hlx_ := (show (l0.drop (a1 : Int).toNat).length = (l0.length - a1.toNat) from List.length_drop); omega); intro v390 w20 ho hb hg hat; rw [← Ny389.out] at ho; have n0_ := am_ (hb); have n1_ := am_ (ho); clear HB; clear HO387; have HB := n0_; have HO391 := n1_; clear n0_ n1_; clear ho hb hg hat) | ((with_reducible refine gate_builtin (b := .append) (xs := #[.tmp 15, .tmp 18]) rfl ?_); at_builtin; refine Kd.R_append (Kd.int .u8) (w0 := w) w.heap.size rfl (.tmp 15) (.tmp 18) 22 5 (.int .u8 0) 1 rfl Try.underlying22 info5 rfl (by decide) (by omega) v390 y389 ((a1) % 256) [.int .u8 ((a1) % 256)] (fun _ => True) (fun _ => False) rfl rfl ?aP (fun _ hk => hk.elim) ?aF ?aO ?aB ?aS ?aL ?_; (case aP => exact rfl); (case aB => exact (by repeat (first | (with_reducible first | exact HB.out | apply ba_ | apply pw_below_drewN | apply bd_) | exact HB.out))); (case aF => exact (fun _ _ => trivial)); (case aO => exact (by (with_reducible repeat (first | apply ra_ | apply rn_ | apply rd_)); exact HO391.out)); (case aS => exact (bz_ (by repeat (first | (with_reducible first | exact HB.out | apply ba_ | apply pw_below_drewN | apply bd_) | exact HB.out)))); (case aL => have := LMc16.out; omega); intro v393 w21 ho hb hg hat; rw [← Ny392.out] at ho; have n0_ := am_ (hb); have n1_ := am_ (ho); clear HB; clear HO391; have HB := n0_; have HO394 := n1_; clear n0_ n1_; clear ho hb hg hat))
      go_ret
      exact ⟨_, by first | rfl | (simp [errW_none, errW_some] <;> rfl) | (simp [*, errW_none, errW_some] <;> rfl), by (with_reducible repeat (first | apply ra_ | apply rn_ | apply rd_)); exact HO394.out, by repeat (first | (with_reducible first | exact HB.out | apply ba_ | apply pw_below_drewN | apply bd_) | exact HB.out)⟩
     ·
      rw [if_neg c16] at H
      exact absurd H (by simp)
    ·
     rw [if_neg c15] at H
     exact absurd H (by simp)
   ·
    rw [if_neg c14] at H
    exact absurd H (by simp)
  ·
   rw [if_neg c13] at H
   exact absurd H (by simp)

end Go.Proofs.Ytknnnkkchfcjkaa.PFnBudgets
