import Derived.Test.YtdldhfocpandoaaGreatStI
set_option maxHeartbeats 8000000
set_option maxRecDepth 8000
namespace Go.Sx
open Go.Proofs Go.Proofs.Tryz
theorem LT {w : World} {v x : Value} {xs ys : List UInt8} {ty : TypeId} (r : Row w v xs) (hs : Bts w x ys) (hl : xs.length + ys.length ≤ 2 ^ 46) : ∃ v' w', (Builtin.append_ #[22, 22] ty #[v, x]).run prog w = .ok v' w' ∧
 Bts w' v' (xs ++ ys) ∧ Fr (Bk v) w (Bk v') w' := by
 by_cases hy : 0 < ys.length
 · obtain ⟨v', w', h1, h2, h3⟩ := Ir (ty := ty) r hs.src hl hy
   exact ⟨v', w', h1, BH h2, h3⟩
 · have hy0 : ys = [] := List.eq_nil_of_length_eq_zero (by omega)
   subst hy0
   obtain ⟨i, hi, hz, hs1, hb⟩ := J6 NW
   rcases r with r | ⟨b, rfl, hb, ha⟩
   · obtain ⟨v', w', h1, h2, h3⟩ := BC (ty := ty) r hs.src hl
     exact ⟨v', w', h1, BH h2, h3⟩
   · have hsrc := hs.src
     refine ⟨_, w, ?_, ?_, Fr.refl _ _⟩
     · have h1 : i.size = 1 := hs1
       have hc := hsrc.cells
       have hn := hsrc.len
       simp only [List.length_nil, List.map_nil] at hc hn
       rcases hsrc.kind with ⟨e', hk⟩ | hk
       · simp [Builtin.append_, run_underlying underlying22, sizeOf, typeInfo, hi, hn, h1, hc, storeCells]
       · simp [Builtin.append_, run_underlying underlying22, sizeOf, typeInfo, hi, hn, h1, hc, storeCells]
     · rw [List.append_nil]
       refine ⟨by simp only [List.length_nil] at hl; simp only [maxLen]; omega, .inr ⟨b, 0, xs.length, rfl, hb, ha, Nat.le_refl _⟩⟩
theorem NJ : By prog 22 false 1 := Pp
end Go.Sx
