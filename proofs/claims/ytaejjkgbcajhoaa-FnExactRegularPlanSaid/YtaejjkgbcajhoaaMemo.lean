/- A map with keys of three whole numbers, as a memory of answers: what it holds answers to a law. -/
import Derived.Maps.OwnSet
import Derived.Maps.Ext
import Derived.DeepKeys5
import Derived.Test.YtaejjkgbcajhoaaWMore
namespace Go.Proofs.Ytaejjkgbcajhoaa.Memo
open Go Go.Maps Go.WideShapes Go.RowKit
set_option linter.unusedVariables false

def key3 (i s p : Int) : Value := .agg #[.int .i64 i, .int .i64 s, .int .i64 p]
/-- The keys that are ever laid. -/
def InR (i s p : Int) : Prop := 0 ≤ i ∧ i ≤ 8 ∧ 0 ≤ s ∧ s ≤ 1000 ∧ 0 ≤ p ∧ p ≤ 1
def Memo (P : Program) (k e : TypeId) (w : World) (b : Nat) (G : Int → Int → Int → Int → Prop) : Prop :=
  ∃ n D, w.ownsMap (H := Unit) P k (plainElem P e) b n D ∧ ∀ kl, has D kl = true → ∃ i s p v, InR i s p ∧ keyOf P k (key3 i s p) = some kl ∧ D.atKey kl (.lit (.int .i64 0)) = .lit (.int .i64 v) ∧ G i s p v
section
variable {P : Program} {k e : TypeId} {w w' : World} {b : Nat} {G : Int → Int → Int → Int → Prop}
theorem memo_made (w : World) : Memo P k e (w.alloc (.map #[] 0)) w.heap.size G := ⟨0, _, World.ownsMap_made w P k _, fun kl h => by simp [has] at h⟩
theorem memo_grown {row : Option Nat} (h : Memo P k e w b G) (hg : w.grownBy w' row) (hne : some b ≠ row) : Memo P k e w' b G := by
  obtain ⟨n, D, ho, hd⟩ := h
  exact ⟨n, D, ho.kept hg hne, hd⟩
theorem growM (h : Below w.heap.size w w') (row : Option Nat) : w.grownBy w' row := ⟨h.os, h.tape, h.output, h.size, fun i hi _ => h.block i hi⟩
theorem transM {w1 w2 : World} {row : Option Nat} (h : w.grownBy w1 row) (h2 : w1.grownBy w2 row) : w.grownBy w2 row :=
  ⟨h2.os.trans h.os, h2.tape.trans h.tape, h2.output.trans h.output, Nat.le_trans h.size h2.size, fun i hi hr => (h2.block i (Nat.lt_of_lt_of_le hi h.size) hr).trans (h.block i hi hr)⟩
theorem memo_below (h : Memo P k e w b G) (hb : Below w.heap.size w w') : Memo P k e w' b G := memo_grown h (growM hb none) (by simp)
theorem memo_map (h : Memo P k e w b G) : ∃ es clock, w.heap[b]? = some (.map es clock) := by
  obtain ⟨n, D, ⟨es, clock, hb, _⟩, _⟩ := h
  exact ⟨es, clock, hb⟩
theorem memo_ne (h : Memo P k e w b G) {g : Nat} {cs : Array Value} {t : TypeId} {fr : Nat × Nat} (hg : w.heap[g]? = some (.cells cs t fr)) : g ≠ b := by
  rintro rfl
  obtain ⟨es, clock, hb⟩ := memo_map h
  rw [hg] at hb
  cases hb
theorem memo_look {t : TypeId} (h : Memo P k e w b G) (K : Keyed P k) (ht : P.underlying t = some (.map k e)) (he : P.underlying e = some (.int .i64)) (hz : (zeroValue e).run P w = .ok (.int .i64 0) w) {i s p : Int} (hk : ∃ kl, keyOf P k (key3 i s p) = some kl) :
    ∃ c ok, (Instr.lookup t (.map (some b)) (key3 i s p) true).run P w = .ok (.tuple #[.int .i64 c, .bool ok]) w ∧ (ok = true → G i s p c) := by
  obtain ⟨n, D, ho, hd⟩ := h
  obtain ⟨kl, hkl⟩ := hk
  obtain ⟨v, ps, hrun, hv⟩ := ho.look_ok K ht hz (plainElem_int he (by decide)) hkl
  obtain ⟨c, rfl, hc, _⟩ := plainElem_int_inv he hv
  refine ⟨c, _, hrun, fun hh => ?_⟩
  obtain ⟨i', s', p', v', _, h2, h3, h4⟩ := hd kl hh
  have e1 := K.inj h2 hkl
  simp only [key3, Value.agg.injEq, Array.mk.injEq, List.cons.injEq, Value.int.injEq, true_and, and_true] at e1
  obtain ⟨rfl, rfl, rfl⟩ := e1
  have e2 : D.atKey kl (.lit (.int .i64 0)) = .lit (.int .i64 c) := congrArg Prod.fst hc
  rw [e2] at h3
  simp only [DataW.lit.injEq, Lit.int.injEq, true_and] at h3
  rw [h3]
  exact h4
theorem memo_looks {t : TypeId} (h : Memo P k e w b G) (K : Keyed P k) (ht : P.underlying t = some (.map k e)) (he : P.underlying e = some (.int .i64)) (hz : ∀ w, (zeroValue e).run P w = .ok (.int .i64 0) w) {i s p : Int} (hk : ∃ kl, keyOf P k (key3 i s p) = some kl) :
    ∃ c ok, (∀ m, (Instr.lookup t (.map (some b)) (key3 i s p) true).run P (w.drewN m) = .ok (.tuple #[.int .i64 c, .bool ok]) (w.drewN m)) ∧ (ok = true → G i s p c) := by
  obtain ⟨c, ok, hrun, hG⟩ := memo_look h K ht he (hz w) hk
  refine ⟨c, ok, fun m => ?_, hG⟩
  obtain ⟨n, D, ⟨es, clock, hb, F, hs, hD⟩, hd⟩ := h
  obtain ⟨kl, hkl⟩ := hk
  have ho : w.ownsMap (H := Unit) P k (plainElem P e) b n D := ⟨es, clock, hb, F, hs, hD⟩
  have ho2 : (w.drewN m).ownsMap (H := Unit) P k (plainElem P e) b n D := ⟨es, clock, hb, F, hs, hD⟩
  obtain ⟨v, ps, hrun1, hv⟩ := ho.look_ok K ht (hz _) (plainElem_int he (by decide)) hkl
  obtain ⟨v2, ps2, hrun2, hv2⟩ := ho2.look_ok K ht (hz _) (plainElem_int he (by decide)) hkl
  obtain ⟨c1, rfl, hc1, _⟩ := plainElem_int_inv he hv
  obtain ⟨c2, rfl, hc2, _⟩ := plainElem_int_inv he hv2
  have e12 : c2 = c1 := by
    have a1 : D.atKey kl (.lit (.int .i64 0)) = .lit (.int .i64 c1) := congrArg Prod.fst hc1
    have a2 : D.atKey kl (.lit (.int .i64 0)) = .lit (.int .i64 c2) := congrArg Prod.fst hc2
    have e1 := a2.symm.trans a1
    simp only [DataW.lit.injEq, Lit.int.injEq, true_and] at e1
    exact e1
  rw [hrun] at hrun1
  injection hrun1 with h1 _
  rw [hrun2, e12, ← h1]
theorem length_le_of_sub {α : Type} : ∀ (l K : List α), l.Pairwise (fun a b => a ≠ b) → (∀ x ∈ l, x ∈ K) → l.length ≤ K.length
  | [], K, _, _ => Nat.zero_le _
  | a :: l, K, h, hs => by
    obtain ⟨K1, K2, rfl⟩ := List.append_of_mem (hs a (by simp))
    have ih := length_le_of_sub l (K1 ++ K2) (List.pairwise_cons.1 h).2 fun x hx => by
      have hne : a ≠ x := (List.pairwise_cons.1 h).1 x hx
      have := hs x (by simp [hx])
      simp only [List.mem_append, List.mem_cons] at this ⊢
      rcases this with h1 | h1 | h1
      · exact .inl h1
      · exact absurd h1.symm hne
      · exact .inr h1
    simp only [List.length_append, List.length_cons] at ih ⊢
    omega
/-- All keys that may be laid. -/
def allKeys (P : Program) (k : TypeId) : List Lit :=
  (List.range 9).flatMap fun i : Nat => (List.range 1001).flatMap fun s : Nat => (List.range 2).flatMap fun p : Nat => (keyOf P k (key3 (i : Int) (s : Int) (p : Int))).toList
theorem flatMap_le {α β : Type} (f : α → List β) (m : Nat) : ∀ l : List α, (∀ x ∈ l, (f x).length ≤ m) → (l.flatMap f).length ≤ l.length * m
  | [], _ => by simp
  | a :: l, h => by
    have ih := flatMap_le f m l fun x hx => h x (by simp [hx])
    have h1 := h a (by simp)
    simp only [List.flatMap_cons, List.length_append, List.length_cons, Nat.add_mul, Nat.one_mul]
    omega
theorem allKeys_le : (allKeys P k).length ≤ 18018 := by
  have h3 : ∀ i s : Nat, ((List.range 2).flatMap fun p : Nat => (keyOf P k (key3 (i : Int) (s : Int) (p : Int))).toList).length ≤ 2 := fun i s => by
    have := flatMap_le (fun p : Nat => (keyOf P k (key3 (i : Int) (s : Int) (p : Int))).toList) 1 (List.range 2) fun x _ => by
      cases keyOf P k (key3 (i : Int) (s : Int) (x : Int)) <;> simp
    simpa using this
  have h2 : ∀ i : Nat, ((List.range 1001).flatMap fun s : Nat => (List.range 2).flatMap fun p : Nat => (keyOf P k (key3 (i : Int) (s : Int) (p : Int))).toList).length ≤ 2002 := fun i => by
    have := flatMap_le _ 2 (List.range 1001) fun s _ => h3 i s
    rw [List.length_range] at this
    exact Nat.le_trans this (by decide)
  have h1 := flatMap_le _ 2002 (List.range 9) fun i _ => h2 i
  rw [List.length_range] at h1
  exact Nat.le_trans h1 (by decide)
theorem mem_allKeys {i s p : Int} {kl : Lit} (hr : InR i s p) (h : keyOf P k (key3 i s p) = some kl) : kl ∈ allKeys P k := by
  obtain ⟨a0, a1, b0, b1, c0, c1⟩ := hr
  refine List.mem_flatMap.2 ⟨i.toNat, List.mem_range.2 (by omega), List.mem_flatMap.2 ⟨s.toNat, List.mem_range.2 (by omega), List.mem_flatMap.2 ⟨p.toNat, List.mem_range.2 (by omega), ?_⟩⟩⟩
  rw [Int.toNat_of_nonneg a0, Int.toNat_of_nonneg b0, Int.toNat_of_nonneg c0, h]
  simp
theorem owns_small {n : Nat} {D : DataW Unit} (K : Keyed P k) (ho : w.ownsMap (H := Unit) P k (plainElem P e) b n D) (hd : ∀ kl, has D kl = true → kl ∈ allKeys P k) : w.ownsMap (H := Unit) P k (plainElem P e) b 18018 D := by
  obtain ⟨es, hD, hr, hkl⟩ := ho.canon K
  obtain ⟨es', clock, hb, F, hs, hD2⟩ := ho
  have e1 : es'.size = es.length := by
    rw [hD] at hD2
    have := congrArg size hD2
    simp only [size_eq, length_sorted] at this
    simpa using this.symm
  have hle : (es.map Prod.fst).length ≤ (allKeys P k).length := by
    refine length_le_of_sub _ _ (List.pairwise_map.2 (apart_of_rising hr)) fun x hx => ?_
    obtain ⟨q, hq, rfl⟩ := List.mem_map.1 hx
    refine hd q.1 ?_
    rw [hD]
    exact List.any_eq_true.2 ⟨q, hq, WideAt.sameKey_self (hkl q hq)⟩
  rw [List.length_map] at hle
  exact ⟨es', clock, hb, F, by have := allKeys_le (P := P) (k := k); omega, hD2⟩
theorem memo_store {t : TypeId} (h : Memo P k e w b G) (K : Keyed P k) (ht : P.underlying t = some (.map k e)) (he : P.underlying e = some (.int .i64)) {i s p v : Int} (hr : InR i s p) (hk : ∃ kl, keyOf P k (key3 i s p) = some kl) (hv : (Lit.int .i64 v).wf = true) (hG : G i s p v) :
    ∃ w', (Instr.mapUpdate t (.map (some b)) (key3 i s p) (.int .i64 v)).run P w = .ok () w' ∧ Memo P k e w' b G ∧ w.grownBy w' (some b) := by
  obtain ⟨n, D, ho, hd⟩ := h
  obtain ⟨kl, hkl⟩ := hk
  have ho2 := owns_small K ho fun kl' hh => by
    obtain ⟨i', s', p', v', h1, h2, _⟩ := hd kl' hh
    exact mem_allKeys h1 h2
  obtain ⟨w', hrun, ho3, hg⟩ := ho2.update K ht (by decide) hkl (plainElem_int he hv)
  refine ⟨w', hrun, ⟨_, _, ho3, fun kl' hh => ?_⟩, hg⟩
  by_cases ek : kl' = kl
  · subst ek
    exact ⟨i, s, p, v, hr, hkl, atKey_put_same ho.isMap (K.key hkl) _ _, hG⟩
  · rw [has_put_other ek] at hh
    obtain ⟨i', s', p', v', h1, h2, h3, h4⟩ := hd kl' hh
    exact ⟨i', s', p', v', h1, h2, by rw [atKey_put_other ek]; exact h3, h4⟩
end
section
open Go.Proofs.YtaejjkgbcajhoaaW.PrintWords Go.Proofs.YtaejjkgbcajhoaaW.PrintLast Go.Proofs.YtaejjkgbcajhoaaW.PrintMore
theorem own_map {w : World} {base : Nat} {v : Value} {xs : List Int} {gm : Nat} {es : Array MapEntry} {ck : Nat} (h : Kd.R (Kd.int .i64) 3 w base (fun _ => True) v xs) (hm : w.heap[gm]? = some (.map es ck)) : v.ownBlock ≠ some gm := by
  intro he
  obtain ⟨_, h1 | ⟨g, cap, cur, rfl, _, hh, _⟩⟩ := Kd.own_of_R (h1 := fun _ => rfl) h
  · rw [h1.1] at he
    cases he
  · have e : g = gm := by simpa [Value.ownBlock] using he
    rw [e, hm] at hh
    cases hh
theorem keepM {w w' : World} {base : Nat} {v : Value} {xs : List Int} {gm : Nat} {es : Array MapEntry} {ck : Nat} (h : Kd.R (Kd.int .i64) 3 w base (fun _ => True) v xs) (hm : w.heap[gm]? = some (.map es ck)) (hg : w.grownBy w' (some gm)) : Kd.R (Kd.int .i64) 3 w' base (fun _ => True) v xs := by
  have hne := own_map h hm
  obtain ⟨hl, h1⟩ := Kd.own_of_R (h1 := fun _ => rfl) h
  refine Kd.R_of_own (h1 := fun _ => rfl) ⟨hl, ?_⟩ (fun _ _ => trivial)
  rcases h1 with h1 | ⟨g, cap, cur, rfl, hb, hh, hr⟩
  · exact .inl h1
  · exact .inr ⟨g, cap, cur, rfl, hb, (hg.block g (blk_lt hh) (by simpa [Value.ownBlock] using hne)).trans hh, hr⟩
theorem map_event {P : Program} {ops : Array Oper} {rest : List Oper} {o : Oper} {a : Act} {Q : Exit → Act → World → Prop} {W : World} (hgd : o.guard = none) {N : Tmp} (_hd : o.dst = some N)
    (hrun : (execOp a.eval o).run P W = .ok (.value (.map (some W.heap.size))) (W.alloc (.map #[] 0)))
    (h : ∀ g, g = W.heap.size → ∀ w1, (∀ k e G, Memo P k e w1 g G) → Below W.heap.size W w1 → wpList P ops Q rest (a.put o.dst (.map (some g))) w1) : wpList P ops Q (o :: rest) a W :=
  Kd.event_run hgd hrun (h _ rfl _ (fun _ _ _ => memo_made W) (below_alloc (Below.refl _ _) _))
end
end Go.Proofs.Ytaejjkgbcajhoaa.Memo
