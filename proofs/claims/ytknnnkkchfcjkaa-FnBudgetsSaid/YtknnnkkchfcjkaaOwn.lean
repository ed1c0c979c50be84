/- Small words for the rows: an argument that is a slice (of whole numbers, of slices, of structs) read as a list. -/
import Derived.Test.YtknnnkkchfcjkaaWMore
import Derived.Deep.Slices
import Derived.Deep.Fields
import Derived.ChangeSame
import Derived.OpenShut
import Derived.Lib.SmallJoins
namespace Go.Proofs.Ytknnnkkchfcjkaa.Own
open Go.RowKit Go.ChangeShapes Go.WideShapes Go.Deep Go.Joins Go.Proofs.YtknnnkkchfcjkaaW.PrintWords
section
variable {H : Type} {enc : TypeId × Value → H} {P : Program} {w : World} {held : Bool}

theorem rd_rowL {α : Type} (d : Kd α) (Ok : α → Prop) {t e : TypeId} (ht : P.underlying t = some (.slice e)) (hc : P.cellsOf e = d.sz)
    (each : ∀ n cs y, cs.length = d.sz → DataW.trod enc P w 0 (fun _ => true) held n e cs = some y → ∃ x, d.K w x cs ∧ Ok x)
    {n : Nat} {v : Value} {y : DataW H × List MemPlace} (h : DataW.trod enc P w 0 (fun _ => true) held n t [v] = some y) :
    ∃ (A : Option Addr) (l : List α) (c : Nat), v = .slice A l.length c ∧ Kd.C d w A l.length l ∧ l.length ≤ c ∧ l.length ≤ maxLen ∧ ∀ x ∈ l, Ok x := by
  rcases open_slice ht h with ⟨h0, _⟩ | ⟨a, len, cap, m, k, D, Pl, hcs, hb, hl, hm, hmm, hx, hi⟩
  · obtain rfl : v = .slice none 0 0 := by simpa using h0
    exact ⟨none, [], 0, rfl, ⟨rfl, by simp, fun h => absurd h (by simp)⟩, Nat.le_refl _, by simp, by simp⟩
  · obtain rfl : v = .slice (some a) len cap := by simpa using hcs
    have hmlen : len ≤ m := by rw [hmm]; simpa using hl
    have key : ∀ i : Fin len, ∃ x : α, Ok x ∧ ∃ cs, cs.length = d.sz ∧ d.K w x cs ∧ ∀ j u, cs[j]? = some u → w.cell? (a.add (i.val * d.sz + j)) = some u := by
      intro i
      obtain ⟨cs, h1, h2⟩ := hi i.val (by have := i.isLt; omega)
      rw [hc] at h1
      obtain ⟨_, hcl, hat⟩ := World.cells?_some h1
      obtain ⟨x, hk, hok⟩ := each _ _ _ hcl h2
      refine ⟨x, hok, cs, hcl, hk, fun j u hj => ?_⟩
      have hjl : j < d.sz := by have := (List.getElem?_eq_some_iff.1 hj).1; omega
      have := hat j hjl
      rw [← Go.Deep.add_add, this, hj]
    obtain ⟨X, hX⟩ := Classical.axiomOfChoice key
    have hll : (List.ofFn X).length = len := List.length_ofFn
    have hmax : cap ≤ maxLen := hm
    refine ⟨some a, List.ofFn X, cap, by rw [hll], ⟨rfl, ?_, fun _ => ⟨a, rfl, fun j p hj => ?_⟩⟩, by rw [hll]; exact hl, by rw [hll]; exact Nat.le_trans hl hmax, fun x hx => ?_⟩
    · rw [hll]
      have h2 : maxLen ≤ 9223372036854775807 := by unfold maxLen; omega
      exact Nat.le_trans hl (Nat.le_trans hmax h2)
    · obtain ⟨hjl, hp⟩ := List.getElem?_eq_some_iff.1 hj
      rw [hll] at hjl
      rw [List.getElem_ofFn] at hp
      subst hp
      obtain ⟨_, cs, h1, h2, h3⟩ := hX ⟨j, hjl⟩
      exact ⟨cs, h1, h2, h3⟩
    · obtain ⟨i, rfl⟩ := (List.mem_ofFn).1 hx
      exact (hX i).1
theorem rd_row {α : Type} (d : Kd α) (Ok : α → Prop) {t e : TypeId} (ht : P.underlying t = some (.slice e)) (hc : P.cellsOf e = d.sz)
    (each : ∀ n cs y, DataW.trod enc P w 0 (fun _ => true) held n e cs = some y → ∃ x, d.K w x cs ∧ Ok x)
    {n : Nat} {v : Value} {y : DataW H × List MemPlace} (h : DataW.trod enc P w 0 (fun _ => true) held n t [v] = some y) :
    ∃ (A : Option Addr) (l : List α) (c : Nat), v = .slice A l.length c ∧ Kd.C d w A l.length l ∧ l.length ≤ c ∧ l.length ≤ maxLen ∧ ∀ x ∈ l, Ok x :=
  rd_rowL d Ok ht hc (fun n cs y _ h => each n cs y h) h
theorem each_int {e : TypeId} {k : IntKind} (he : P.underlying e = some (.int k)) :
    ∀ n cs y, DataW.trod enc P w 0 (fun _ => true) held n e cs = some y → ∃ x, (Kd.int k).K w x cs ∧ (Lit.int k x).wf = true := by
  intro n cs y h
  obtain ⟨m, rfl, rfl, hw⟩ := DataW.trod_int he h
  exact ⟨m, rfl, hw⟩
theorem rd_ints {t e : TypeId} {k : IntKind} (ht : P.underlying t = some (.slice e)) (he : P.underlying e = some (.int k)) (hc : P.cellsOf e = 1)
    {n : Nat} {v : Value} {y : DataW H × List MemPlace} (h : DataW.trod enc P w 0 (fun _ => true) held n t [v] = some y) :
    ∃ (A : Option Addr) (l : List Int) (c : Nat), v = .slice A l.length c ∧ Kd.C (Kd.int k) w A l.length l ∧ l.length ≤ c ∧ l.length ≤ maxLen ∧ ∀ x ∈ l, (Lit.int k x).wf = true :=
  rd_row (Kd.int k) (fun x => (Lit.int k x).wf = true) ht hc (each_int he) h
theorem rd_rows {t t1 e : TypeId} {k : IntKind} (ht : P.underlying t = some (.slice t1)) (ht1 : P.underlying t1 = some (.slice e)) (he : P.underlying e = some (.int k)) (hc : P.cellsOf e = 1) (hc1 : P.cellsOf t1 = 1)
    {n : Nat} {v : Value} {y : DataW H × List MemPlace} (h : DataW.trod enc P w 0 (fun _ => true) held n t [v] = some y) :
    ∃ (A : Option Addr) (l : List (List Int)) (c : Nat), v = .slice A l.length c ∧ Kd.C (Kd.slice e (Kd.int k)) w A l.length l ∧ l.length ≤ c ∧ l.length ≤ maxLen ∧ ∀ r ∈ l, r.length ≤ maxLen ∧ ∀ x ∈ r, (Lit.int k x).wf = true := by
  refine rd_row (Kd.slice e (Kd.int k)) (fun r => r.length ≤ maxLen ∧ ∀ x ∈ r, (Lit.int k x).wf = true) ht hc1 ?_ h
  intro n cs y h
  have hcl : cs.length = 1 := by
    rcases open_slice ht1 h with ⟨h0, _⟩ | ⟨_, _, _, _, _, _, _, h0, _⟩ <;> rw [h0] <;> rfl
  match cs, hcl with
  | [v], _ =>
    obtain ⟨A, l, c, rfl, h1, h2, h3, h4⟩ := rd_ints ht1 he hc h
    exact ⟨l, ⟨A, c, rfl, h2, h1⟩, h3, h4⟩
theorem rd_int {t : TypeId} {k : IntKind} (ht : P.underlying t = some (.int k)) {n : Nat} {v : Value} {y : DataW H × List MemPlace} (h : DataW.trod enc P w 0 (fun _ => true) held n t [v] = some y) :
    ∃ x, v = .int k x ∧ (Lit.int k x).wf = true := by
  obtain ⟨m, h1, _, hw⟩ := DataW.trod_int ht h
  exact ⟨m, by simpa using h1, hw⟩
theorem trod_one {t : TypeId} {v : Value} {d : DataW H} {ps : List MemPlace} (hv : v.cells = #[v]) (h : DataW.Trod enc P w 0 (fun _ => true) held t v d ps) : ∃ n, DataW.trod enc P w 0 (fun _ => true) held n t [v] = some (d, ps) := by
  obtain ⟨n, hf⟩ := h
  rw [hv] at hf
  exact ⟨n, by simpa using hf⟩
theorem open_agg5 {r : Reach} {b0 base : Nat} {spare : Nat → Bool} {t : TypeId} {f0 f1 f2 f3 f4 : Field} {v : Value} {d : DataW H} {p : List MemPlace} (hs : P.underlying t = some (.struct #[f0, f1, f2, f3, f4])) (hone : oneCellFields P #[f0, f1, f2, f3, f4] = true) (hC : P.cellsOf t = 5)
    (hv : Value.okWide P w r b0 t v) (h : DataW.Trod enc P w base spare held t v d p) :
    ∃ (v0 v1 v2 v3 v4 : Value) (y0 y1 y2 y3 y4 : DataW H × List MemPlace) (n : Nat), v = .agg #[v0, v1, v2, v3, v4] ∧ d = .agg [y0.1, y1.1, y2.1, y3.1, y4.1] ∧ p = y0.2 ++ (y1.2 ++ (y2.2 ++ (y3.2 ++ y4.2))) ∧
      DataW.trod enc P w base spare held n f0.type [v0] = some y0 ∧ DataW.trod enc P w base spare held n f1.type [v1] = some y1 ∧ DataW.trod enc P w base spare held n f2.type [v2] = some y2 ∧ DataW.trod enc P w base spare held n f3.type [v3] = some y3 ∧ DataW.trod enc P w base spare held n f4.type [v4] = some y4 := by
  obtain ⟨cs, rfl, hsz⟩ := okWide_struct hs hv
  obtain ⟨l⟩ := cs
  match l, hsz.trans hC with
  | [c0, c1, c2, c3, c4], _ =>
    obtain ⟨fuel, hf⟩ := h
    obtain ⟨xs, n, _, hx, _, hlen, hg⟩ := DataW.trod_struct hs hf
    obtain ⟨o0, k0⟩ := hone_of hone 0 f0 rfl
    obtain ⟨o1, k1⟩ := hone_of hone 1 f1 rfl
    obtain ⟨o2, k2⟩ := hone_of hone 2 f2 rfl
    obtain ⟨o3, k3⟩ := hone_of hone 3 f3 rfl
    obtain ⟨o4, k4⟩ := hone_of hone 4 f4 rfl
    match xs, hlen with
    | [y0, y1, y2, y3, y4], _ =>
      simp only [Prod.mk.injEq] at hx
      exact ⟨c0, c1, c2, c3, c4, y0, y1, y2, y3, y4, n, rfl, by simpa using hx.1, by simpa using hx.2, by simpa [Value.cells, o0, k0] using hg 0 f0 rfl, by simpa [Value.cells, o1, k1] using hg 1 f1 rfl, by simpa [Value.cells, o2, k2] using hg 2 f2 rfl, by simpa [Value.cells, o3, k3] using hg 3 f3 rfl, by simpa [Value.cells, o4, k4] using hg 4 f4 rfl⟩
theorem rd_row5 {α : Type} (d : Kd α) (Ok : α → Prop) {t e : TypeId} {f0 f1 f2 f3 f4 : Field} (ht : P.underlying t = some (.slice e)) (hs : P.underlying e = some (.struct #[f0, f1, f2, f3, f4])) (hone : oneCellFields P #[f0, f1, f2, f3, f4] = true) (hC : P.cellsOf e = 5) (hd : d.sz = 5)
    (k0 : P.underlying f0.type = some (.int .i64)) (k1 : P.underlying f1.type = some (.int .i64)) (k2 : P.underlying f2.type = some (.int .i64)) (k3 : P.underlying f3.type = some (.int .i64)) (k4 : P.underlying f4.type = some (.int .i64))
    (mk : ∀ x0 x1 x2 x3 x4 : Int, (Lit.int .i64 x0).wf = true → (Lit.int .i64 x1).wf = true → (Lit.int .i64 x2).wf = true → (Lit.int .i64 x3).wf = true → (Lit.int .i64 x4).wf = true → ∃ x, d.K w x [.int .i64 x0, .int .i64 x1, .int .i64 x2, .int .i64 x3, .int .i64 x4] ∧ Ok x)
    {n : Nat} {v : Value} {y : DataW H × List MemPlace} (h : DataW.trod enc P w 0 (fun _ => true) held n t [v] = some y) :
    ∃ (A : Option Addr) (l : List α) (c : Nat), v = .slice A l.length c ∧ Kd.C d w A l.length l ∧ l.length ≤ c ∧ l.length ≤ maxLen ∧ ∀ x ∈ l, Ok x := by
  refine rd_rowL d Ok ht (hC.trans hd.symm) ?_ h
  intro n cs y hlen hf
  rw [hd] at hlen
  match cs, hlen with
  | [c0, c1, c2, c3, c4], _ =>
    obtain ⟨xs, n, _, hx, _, hlen, hg⟩ := DataW.trod_struct hs hf
    obtain ⟨o0, s0⟩ := hone_of hone 0 f0 rfl
    obtain ⟨o1, s1⟩ := hone_of hone 1 f1 rfl
    obtain ⟨o2, s2⟩ := hone_of hone 2 f2 rfl
    obtain ⟨o3, s3⟩ := hone_of hone 3 f3 rfl
    obtain ⟨o4, s4⟩ := hone_of hone 4 f4 rfl
    match xs, hlen with
    | [y0, y1, y2, y3, y4], _ =>
      obtain ⟨x0, rfl, w0⟩ := rd_int k0 (show DataW.trod enc P w 0 (fun _ => true) held n f0.type [c0] = some y0 by simpa [Value.cells, o0, s0] using hg 0 f0 rfl)
      obtain ⟨x1, rfl, w1⟩ := rd_int k1 (show DataW.trod enc P w 0 (fun _ => true) held n f1.type [c1] = some y1 by simpa [Value.cells, o1, s1] using hg 1 f1 rfl)
      obtain ⟨x2, rfl, w2⟩ := rd_int k2 (show DataW.trod enc P w 0 (fun _ => true) held n f2.type [c2] = some y2 by simpa [Value.cells, o2, s2] using hg 2 f2 rfl)
      obtain ⟨x3, rfl, w3⟩ := rd_int k3 (show DataW.trod enc P w 0 (fun _ => true) held n f3.type [c3] = some y3 by simpa [Value.cells, o3, s3] using hg 3 f3 rfl)
      obtain ⟨x4, rfl, w4⟩ := rd_int k4 (show DataW.trod enc P w 0 (fun _ => true) held n f4.type [c4] = some y4 by simpa [Value.cells, o4, s4] using hg 4 f4 rfl)
      exact mk x0 x1 x2 x3 x4 w0 w1 w2 w3 w4
theorem rd_pairs {α : Type} (d : Kd α) (Ok : α → Prop) {t a e : TypeId} (ht : P.underlying t = some (.slice a)) (hs : P.underlying a = some (.array 2 e)) (he : P.underlying e = some (.int .i64)) (h1 : P.cellsOf e = 1) (hC : P.cellsOf a = 2) (hd : d.sz = 2)
    (mk : ∀ x0 x1 : Int, (Lit.int .i64 x0).wf = true → (Lit.int .i64 x1).wf = true → ∃ x, d.K w x [.int .i64 x0, .int .i64 x1] ∧ Ok x)
    {n : Nat} {v : Value} {y : DataW H × List MemPlace} (h : DataW.trod enc P w 0 (fun _ => true) held n t [v] = some y) :
    ∃ (A : Option Addr) (l : List α) (c : Nat), v = .slice A l.length c ∧ Kd.C d w A l.length l ∧ l.length ≤ c ∧ l.length ≤ maxLen ∧ ∀ x ∈ l, Ok x := by
  refine rd_rowL d Ok ht (hC.trans hd.symm) ?_ h
  intro n cs y hlen hf
  rw [hd] at hlen
  match cs, hlen with
  | [c0, c1], _ =>
    obtain ⟨xs, n, _, hx, _, hl, hg⟩ := DataW.trod_array hs hf
    match xs, hl with
    | [y0, y1], _ =>
      obtain ⟨x0, rfl, w0⟩ := rd_int he (show DataW.trod enc P w 0 (fun _ => true) held n e [c0] = some y0 by simpa [h1] using hg 0 (by simp))
      obtain ⟨x1, rfl, w1⟩ := rd_int he (show DataW.trod enc P w 0 (fun _ => true) held n e [c1] = some y1 by simpa [h1] using hg 1 (by simp))
      exact mk x0 x1 w0 w1
theorem open_agg6 {r : Reach} {b0 base : Nat} {spare : Nat → Bool} {t : TypeId} {f0 f1 f2 f3 f4 f5 : Field} {v : Value} {d : DataW H} {p : List MemPlace} (hs : P.underlying t = some (.struct #[f0, f1, f2, f3, f4, f5])) (hone : oneCellFields P #[f0, f1, f2, f3, f4, f5] = true) (hC : P.cellsOf t = 6)
    (hv : Value.okWide P w r b0 t v) (h : DataW.Trod enc P w base spare held t v d p) :
    ∃ (v0 v1 v2 v3 v4 v5 : Value) (y0 y1 y2 y3 y4 y5 : DataW H × List MemPlace) (n : Nat), v = .agg #[v0, v1, v2, v3, v4, v5] ∧ d = .agg [y0.1, y1.1, y2.1, y3.1, y4.1, y5.1] ∧ p = y0.2 ++ (y1.2 ++ (y2.2 ++ (y3.2 ++ (y4.2 ++ y5.2)))) ∧
      DataW.trod enc P w base spare held n f0.type [v0] = some y0 ∧ DataW.trod enc P w base spare held n f1.type [v1] = some y1 ∧ DataW.trod enc P w base spare held n f2.type [v2] = some y2 ∧ DataW.trod enc P w base spare held n f3.type [v3] = some y3 ∧ DataW.trod enc P w base spare held n f4.type [v4] = some y4 ∧ DataW.trod enc P w base spare held n f5.type [v5] = some y5 := by
  obtain ⟨cs, rfl, hsz⟩ := okWide_struct hs hv
  obtain ⟨l⟩ := cs
  match l, hsz.trans hC with
  | [c0, c1, c2, c3, c4, c5], _ =>
    obtain ⟨fuel, hf⟩ := h
    obtain ⟨xs, n, _, hx, _, hlen, hg⟩ := DataW.trod_struct hs hf
    obtain ⟨o0, k0⟩ := hone_of hone 0 f0 rfl
    obtain ⟨o1, k1⟩ := hone_of hone 1 f1 rfl
    obtain ⟨o2, k2⟩ := hone_of hone 2 f2 rfl
    obtain ⟨o3, k3⟩ := hone_of hone 3 f3 rfl
    obtain ⟨o4, k4⟩ := hone_of hone 4 f4 rfl
    obtain ⟨o5, k5⟩ := hone_of hone 5 f5 rfl
    match xs, hlen with
    | [y0, y1, y2, y3, y4, y5], _ =>
      simp only [Prod.mk.injEq] at hx
      exact ⟨c0, c1, c2, c3, c4, c5, y0, y1, y2, y3, y4, y5, n, rfl, by simpa using hx.1, by simpa using hx.2, by simpa [Value.cells, o0, k0] using hg 0 f0 rfl, by simpa [Value.cells, o1, k1] using hg 1 f1 rfl, by simpa [Value.cells, o2, k2] using hg 2 f2 rfl, by simpa [Value.cells, o3, k3] using hg 3 f3 rfl, by simpa [Value.cells, o4, k4] using hg 4 f4 rfl, by simpa [Value.cells, o5, k5] using hg 5 f5 rfl⟩
end
end Go.Proofs.Ytknnnkkchfcjkaa.Own
