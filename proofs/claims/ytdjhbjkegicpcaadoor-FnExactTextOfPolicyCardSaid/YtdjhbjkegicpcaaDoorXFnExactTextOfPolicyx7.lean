-- Made by wip/xprint.py: the print of the kit, called over a changed copy of what it reads.
-- PRINTED by print.py (a twelfth state) out of the translation. Not trusted: Lean checks it.
import Derived.Test.YtdjhbjkegicpcaaDoorShelf
import Derived.Test.YtdjhbjkegicpcaaDoorDyn
import Derived.Test.YtdjhbjkegicpcaaDoorXFnExactTextOfPolicyx0
namespace Go.Proofs.YtdjhbjkegicpcaaDoor.PFnExactTextOfPolicy
open Go.Proofs.YtdjhbjkegicpcaaDoor.Dyn
attribute [local go_sem] run_mf events_mf
open Go.RowKit Go.Proofs.YtdjhbjkegicpcaaDoorW.PrintWords Go.Proofs.YtdjhbjkegicpcaaDoorW.PrintLast Go.Proofs.YtdjhbjkegicpcaaDoorW.PrintMore
attribute [local go_sem] max2_int min2_int max_two min_two max_three min_three max_four min_four   -- for this text's walks alone
set_option linter.unusedVariables false
set_option linter.unusedSimpArgs false




-- NOT PRINTED: function 42 (strconv_numDigits)

-- NOT PRINTED: function 43 (strconv_formatBase10)


-- NOT PRINTED: function 52 (bits_TrailingZeros32)

-- NOT PRINTED: function 53 (bits_TrailingZeros64)

-- NOT PRINTED: function 51 (bits_TrailingZeros)

-- NOT PRINTED: function 44 (strconv_formatBits)

-- NOT PRINTED: function 38 (strconv_FormatInt)

-- NOT PRINTED: function 34 (strconv_Itoa_34)

/-! ### strconv_Itoa_20: function 20 -/
def strconv_Itoa_20.f (a0 : Int) : Option (ByteArray) := if -9223372036854775808 ≤ a0 ∧ a0 ≤ 9223372036854775807 then some ⟨(Lib.itoa a0).toArray⟩ else none
/-- The library's table lies. -/
def TabW (w : World) : Prop := Lib.TabIs Tryd.prog w "internal/strconv.uint64pow10" .u64 Lib.pow10Tab
theorem tabW_below {w w' : World} (h : TabW w) (hb : Below w.heap.size w w') : TabW w' := by
  unfold TabW Lib.TabIs World.var? at h ⊢
  cases hg : Tryd.prog.globalNamed "internal/strconv.uint64pow10" with
  | none =>
    rw [hg] at h
    cases h
  | some g =>
    rw [hg] at h
    simp only [Option.bind_some] at h ⊢
    have hlt : g < w.heap.size := by
      rcases Nat.lt_or_ge g w.heap.size with h' | h'
      · exact h'
      · rw [Array.getElem?_eq_none h'] at h
        cases h
    rw [hb.block g hlt]
    exact h
theorem strconv_Itoa_20.calls (a0 : Int) (r : ByteArray) (w : World) (ht : TabW w) (h : strconv_Itoa_20.f a0 = some r) :
    Calls Tryd.prog 20 #[.int .i64 a0] w fun e w' => e = .returned (.string r) ∧ Below w.heap.size w w' := by
  unfold strconv_Itoa_20.f at h
  split at h
  case isTrue hl =>
    obtain rfl := Option.some.inj h
    refine (Tryd.strconv_Itoa a0 hl.1 hl.2 w ht).mono fun e w' ⟨he, k, os, hw⟩ => ⟨he, ?_⟩
    subst hw
    refine (pw_below_drewN (Below.refl w.heap.size w) k).trans ⟨rfl, rfl, rfl, ?_, fun j hj => ?_⟩
    · show (w.drewN k).heap.size ≤ ((w.drewN k).heap ++ os).size
      rw [Array.size_append]
      omega
    · show ((w.drewN k).heap ++ os)[j]? = (w.drewN k).heap[j]?
      exact Array.getElem?_append_left hj
  case isFalse => cases h
-- NOT PRINTED: function 45 (abi_NoEscape)

-- NOT PRINTED: function 39 (strings_Builder_copyCheck)

-- NOT PRINTED: function 46 (bytealg_MakeNoZero)

-- NOT PRINTED: function 40 (strings_Builder_grow)

-- NOT PRINTED: function 35 (strings_Builder_Grow)

-- NOT PRINTED: function 36 (strings_Builder_WriteString)

-- NOT PRINTED: function 37 (strings_Builder_String)

/-! ### strings_Join: function 21 -/
def strings_Join.f (l0 : List ByteArray) (a1 : ByteArray) : Option (ByteArray) := if l0.length ≤ 140737488355328 ∧ (Lib.join (l0.map (·.data.toList)) a1.data.toList).length ≤ 140737488355328 then some ⟨(Lib.join (l0.map (·.data.toList)) a1.data.toList).toArray⟩ else none
theorem strings_Join.calls (A0 : Option Addr) (c0 : Nat) (l0 : List ByteArray) (a1 : ByteArray) (r : ByteArray) (w : World) (hr0 : ∃ e base ok, Kd.R Kd.string e w base ok (.slice A0 l0.length c0) l0) (hc0 : l0.length ≤ c0) (h : strings_Join.f l0 a1 = some r) :
    Calls Tryd.prog 21 #[.slice A0 l0.length c0, .string a1] w fun e w' => e = .returned (.string r) ∧ Below w.heap.size w w' := by
  unfold strings_Join.f at h
  split at h
  case isTrue hl =>
    obtain rfl := Option.some.inj h
    obtain ⟨e0, base, ok, hR⟩ := hr0
    rcases Nat.eq_zero_or_pos l0.length with hz | hz
    · obtain rfl : l0 = [] := List.length_eq_zero_iff.mp hz
      exact (Tryd.strings_Join_none A0 c0 a1 w).mono fun e w' ⟨he, hw⟩ => ⟨he, hw ▸ Below.refl _ _⟩
    · rcases (Kd.own_of_R hR).2 with ⟨hv, hn⟩ | ⟨g, cap, cur, hv, _, hh, _⟩
      · omega
      · injection hv with e1 _ e3
        subst e1
        subst e3
        refine Tryd.strings_Join g 0 c0 l0 a1 w (fun j x hx => ?_) ?_ hl.1 hc0 hl.2
        · obtain ⟨hj, hx⟩ := List.getElem?_eq_some_iff.mp hx
          have := (Kd.R_cell ByteArray.empty hR (j : Int) (by omega) (by omega)).1
          rw [Int.toNat_natCast] at this
          rw [Nat.zero_add, this]
          unfold rdOf
          simp [List.getD_eq_getElem?_getD, hj, hx]
        · rcases Nat.lt_or_ge g w.heap.size with h' | h'
          · exact h'
          · rw [Array.getElem?_eq_none h'] at hh
            cases hh
  case isFalse => cases h
end Go.Proofs.YtdjhbjkegicpcaaDoor.PFnExactTextOfPolicy
