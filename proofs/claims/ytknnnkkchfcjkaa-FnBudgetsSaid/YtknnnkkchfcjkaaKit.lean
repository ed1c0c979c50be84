/- Small words for the plain side: what holds from some number of rounds on, wrapped sums within bounds, reading a list at an index. No Go, no memory. -/
import Derived.Test.YtknnnkkchfcjkaaWMore
namespace Go.Proofs.Ytknnnkkchfcjkaa.Kit
open Go.RowKit Go.Proofs.YtknnnkkchfcjkaaW.PrintWords Go.Proofs.YtknnnkkchfcjkaaW.PrintLast Go.Proofs.YtknnnkkchfcjkaaW.PrintMore

theorem ev_succ {α : Type} {g : Nat → Option α} {r : α} (h : Ev (fun k => g (k + 1)) r) : Ev g r := Ev.step (fun _ => rfl) h
theorem ev_some {α : Type} (r : α) : Ev (fun _ => some r) r := Ev.now r
theorem ev_of_eq {α : Type} {g : Nat → Option α} {r : α} (h : ∀ k, g k = some r) : Ev g r := ⟨0, fun k _ => h k⟩
theorem ev_bind {α β : Type} {g : Nat → Option α} {f : Nat → α → Option β} {a : α} {r : β} (h : Ev g a) (k : Ev (fun n => f n a) r) : Ev (fun n => (g n).bind (f n)) r := Ev.bind h k
theorem ev_pos {α : Type} {c : Prop} [Decidable c] {g f : Nat → Option α} {r : α} (h : c) (k : Ev g r) : Ev (fun n => if c then g n else f n) r := Ev.congr (fun _ => if_pos h) k
theorem ev_neg {α : Type} {c : Prop} [Decidable c] {g f : Nat → Option α} {r : α} (h : ¬ c) (k : Ev f r) : Ev (fun n => if c then g n else f n) r := Ev.congr (fun _ => if_neg h) k
theorem ev_cast {α : Type} {g : Nat → Option α} {r r' : α} (h : Ev g r) (e : r = r') : Ev g r' := e ▸ h

theorem wid {x : Int} (h0 : -9223372036854775808 ≤ x) (h1 : x ≤ 9223372036854775807) : wrap64 x = x := by
  unfold wrap64
  omega
theorem wf64 {x : Int} (h : (Lit.int .i64 x).wf = true) : -9223372036854775808 ≤ x ∧ x ≤ 9223372036854775807 := by
  simp only [Lit.wf, Bool.and_eq_true, decide_eq_true_eq] at h
  exact h
theorem rd_nat (xs : List Int) (i : Nat) (h : i < xs.length) : rd xs (i : Int) = xs[i] := by
  unfold rd
  simp [List.getD_eq_getElem?_getD, h]
theorem drop_rd (xs : List Int) (i : Nat) (h : i < xs.length) : xs.drop i = rd xs (i : Int) :: xs.drop (i + 1) := by
  rw [rd_nat xs i h]
  exact List.drop_eq_getElem_cons h
theorem take_sum_succ (xs : List Int) (i : Nat) (h : i < xs.length) : (xs.take i).sum + rd xs (i : Int) = (xs.take (i + 1)).sum := by
  rw [List.take_succ_eq_append_getElem h, List.sum_append, rd_nat xs i h]
  simp only [List.sum_cons, List.sum_nil, Int.add_zero]
theorem rdOf_nat {α : Type} (d : α) (xs : List α) (i : Nat) (h : i < xs.length) : rdOf d xs (i : Int) = xs[i] := by
  unfold rdOf
  simp [List.getD_eq_getElem?_getD, h]
theorem drop_rdOf {α : Type} (d : α) (xs : List α) (i : Nat) (h : i < xs.length) : xs.drop i = rdOf d xs (i : Int) :: xs.drop (i + 1) := by
  rw [rdOf_nat d xs i h]
  exact List.drop_eq_getElem_cons h

/-- A guard 'if t then .. else false'. -/
theorem ev_and {P Q : Prop} [Decidable P] [Decidable Q] {g : Nat → Option Bool} {t : Bool} (ht : t = decide P) (h : P → Ev g (decide Q)) : Ev (fun n => if t = true then g n else some false) (decide (P ∧ Q)) := by
  subst ht
  by_cases p : P
  · exact ev_pos (by simpa using p) (ev_cast (h p) (by simp [p]))
  · exact ev_neg (by simpa using p) (ev_cast (ev_some false) (by simp [p]))
theorem ev_andp {P Q : Prop} [Decidable P] [Decidable Q] {g : Nat → Option Bool} (h : P → Ev g (decide Q)) : Ev (fun n => if P then g n else some false) (decide (P ∧ Q)) := by
  by_cases p : P
  · exact ev_pos p (ev_cast (h p) (by simp [p]))
  · exact ev_neg p (ev_cast (ev_some false) (by simp [p]))
theorem ev_dec {P Q : Prop} [Decidable P] [Decidable Q] {g : Nat → Option Bool} (h : Ev g (decide P)) (e : P ↔ Q) : Ev g (decide Q) := ev_cast h (by simp [e])
theorem ev_false {P : Prop} [Decidable P] (h : ¬ P) : Ev (fun _ => some false) (decide P) := ev_cast (ev_some false) (decide_eq_false h).symm
theorem ev_true {P : Prop} [Decidable P] (h : P) : Ev (fun _ => some true) (decide P) := ev_cast (ev_some true) (decide_eq_true h).symm
theorem mulb {a b A B : Int} (h0 : 0 ≤ a) (h1 : a ≤ A) (h2 : 0 ≤ b) (h3 : b ≤ B) : 0 ≤ a * b ∧ a * b ≤ A * B := ⟨Int.mul_nonneg h0 h2, Int.mul_le_mul h1 h3 h2 (Int.le_trans h0 h1)⟩
theorem sum_nonneg {xs : List Int} {b : Int} (h : ∀ x ∈ xs, 0 ≤ x ∧ x ≤ b) : 0 ≤ xs.sum ∧ xs.sum ≤ xs.length * b := by
  induction xs with
  | nil => simp
  | cons x xs ih =>
    have h1 := h x (by simp)
    have h2 := ih fun y hy => h y (by simp [hy])
    have h3 : ((xs.length + 1 : Nat) : Int) * b = xs.length * b + b := by rw [Int.natCast_add, Int.add_mul]; omega
    simp only [List.sum_cons, List.length_cons, h3]
    omega
theorem take_sum {xs : List Int} {b : Int} (hb : 0 ≤ b) (h : ∀ x ∈ xs, 0 ≤ x ∧ x ≤ b) (i : Nat) : 0 ≤ (xs.take i).sum ∧ (xs.take i).sum ≤ xs.length * b := by
  have h1 := sum_nonneg (xs := xs.take i) (b := b) fun x hx => h x (List.mem_of_mem_take hx)
  have h2 : ((xs.take i).length : Int) * b ≤ xs.length * b := Int.mul_le_mul_of_nonneg_right (by have := List.length_take_le i xs; simp only [List.length_take]; omega) hb
  omega
/-- Sums of few small numbers are no wider than a machine's word. -/
theorem take_sum64 {xs : List Int} {b : Int} (hb : 0 ≤ b) (hb2 : b ≤ 1000000000000) (h : ∀ x ∈ xs, 0 ≤ x ∧ x ≤ b) (hl : xs.length ≤ 1000000) (i : Nat) : -9223372036854775808 ≤ (xs.take i).sum ∧ (xs.take i).sum ≤ 9223372036854775807 := by
  have h1 := take_sum hb h i
  have h2 : (xs.length : Int) * b ≤ 1000000 * 1000000000000 := Int.mul_le_mul (by omega) hb2 hb (by omega)
  omega

end Go.Proofs.Ytknnnkkchfcjkaa.Kit
