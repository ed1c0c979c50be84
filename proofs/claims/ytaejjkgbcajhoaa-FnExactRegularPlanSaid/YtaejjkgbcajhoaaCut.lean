/- Intervals of blocks: what was made in one call lies between two sizes of the heap; small words for a law's walk. -/
import Derived.Test.YtaejjkgbcajhoaaWMore
namespace Go.Proofs.Ytaejjkgbcajhoaa.Cut
open Go.RowKit Go.Proofs.YtaejjkgbcajhoaaW.PrintWords Go.Proofs.YtaejjkgbcajhoaaW.PrintLast Go.Proofs.YtaejjkgbcajhoaaW.PrintMore
theorem cutN {a b : Nat} (h : a ≤ b) : ∃ lo hi, lo = a ∧ hi = b ∧ lo ≤ hi := ⟨a, b, rfl, rfl, h⟩
theorem dj {a b c d k : Nat} (h1 : a ≤ k ∧ k < b) (h2 : c ≤ k ∧ k < d) (h : b ≤ c) : False := by omega
theorem sz_set (w : World) (p : Addr) (u : Value) : (w.setCell p u).heap.size = w.heap.size := by simp [World.setCell]
theorem sz_drewN (w : World) (n : Nat) : (w.drewN n).heap.size = w.heap.size := rfl
theorem sz_drew (w : World) : w.drew.heap.size = w.heap.size := rfl
theorem kept_drewN {w w1 : World} {n : Nat} {S : Nat → Prop} (h : Kept (w.drewN n) w1 S) : Kept w w1 S := ⟨h.1, h.2⟩
end Go.Proofs.Ytaejjkgbcajhoaa.Cut
