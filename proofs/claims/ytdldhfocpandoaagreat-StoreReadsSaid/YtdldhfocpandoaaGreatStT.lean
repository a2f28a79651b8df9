import Derived.Test.YtdldhfocpandoaaGreatStF
import Derived.Test.YtdldhfocpandoaaGreatStR
set_option maxHeartbeats 8000000
set_option maxRecDepth 8000
namespace Go.Sx
open Go.Proofs Go.Proofs.Tryz
structure Gr (L X : Nat → Prop) (lo tid : Nat) (e : Ty) (l : List T) (v : Value) (w : World) : Prop where
 new : ∀ b, Bk v b → lo ≤ b ∧ ¬ X b
 rep : ∃ (cs : List (List Value)) (S : Nat → Prop), RepE w S e l cs ∧ (∀ b, S b → L b ∧ ¬ X b ∧ ¬ Bk v b) ∧ w.ownsRow 0 tid e.size v l.length cs.flatten
section
variable {L X : Nat → Prop} {lo tid : Nat} {e : Ty} {l : List T} {v : Value} {w : World}
theorem Gr.start : Gr L X lo tid e [] (.slice none 0 0) w :=
 ⟨fun b hb => by simp [Bk, Value.ownBlock] at hb, [], fun _ => False, trivial, fun _ h => h.elim, World.ownsRow_nil _ _ _ _⟩
theorem Gr.turn (h : Gr L X lo tid e l v w) {O O' : Nat → Prop} {w' : World} (f : Fr O w O' w') (hO : ∀ b, O b → X b) : Gr L X lo tid e l v w' := by
 obtain ⟨cs, S, h1, h2, h3⟩ := h.rep
 refine ⟨h.new, cs, S, RepE.agree (fun b hb hl => ⟨hb, Nat.lt_of_lt_of_le hl f.size, f.blk b hl (fun ho => (h2 b hb).2.1 (hO b ho))⟩) h1, h2, AP h3 (fun b hb => f.blk b (AT h3 hb) (fun ho => (h.new b hb).2 (hO b ho)))⟩
theorem Gr.step {ts bytes : Nat} {ty : TypeId} (hu : prog.underlying ts = some (.slice tid)) (hi : Ck prog tid e.size bytes) (hby : bytes ≤ 4096) (hsz : 0 < e.size) (hsz2 : e.size ≤ 2 ^ 24)
 (h : Gr L X lo tid e l v w) {t : T} {c : List Value} {S' : Nat → Prop} (hr : Rep w S' t e c) (hS' : ∀ b, S' b → b < w.heap.size → L b ∧ ¬ X b ∧ ¬ Bk v b) (hlen : l.length < 2 ^ 25) (hlo : lo ≤ w.heap.size) (hX : ∀ b, X b → b < w.heap.size) :
 ∃ vb w2 v' w3, (Instr.buildSlice ts 1 #[(0, CU e c)]).run prog w = .ok vb w2 ∧ (Builtin.append_ #[ts, ts] ty #[v, vb]).run prog w2 = .ok v' w3 ∧ Gr L X lo tid e (l ++ [t]) v' w3 ∧ Fr (Bk v) w (Bk v') w3 ∧ Fr (fun _ => False) w (fun _ => False) w2 := by
 obtain ⟨cs, S, hre, hS, hrow⟩ := h.rep
 obtain ⟨hc1, hc2⟩ := Rep.one _ _ _ hr
 obtain ⟨ii, z, i1, i2, i3, i4, i5⟩ := hi
 have f2 : Fr (fun _ => False) w (fun _ => False) (w.alloc (.cells c.toArray tid)) := Fr.alloc _ _ _
 have hb2 : Blk (w.alloc (.cells c.toArray tid)) w.heap.size c tid := AN
 have hs2 : (w.alloc (.cells c.toArray tid)).heap.size = w.heap.size + 1 := by simp
 have hrun := Kg (P := prog) (w := w) (v := CU e c) hu ⟨ii, z, i1, i2, i3, i4, i5⟩ hsz hsz2 (El hr) hc1
 generalize w.alloc (.cells c.toArray tid) = w2 at f2 hb2 hs2 hrun
 have hrow2 : w2.ownsRow 0 tid e.size v l.length cs.flatten := AP hrow (fun b hb => f2.blk b (AT hrow hb) (fun h => h))
 have hmul : (l.length + 1) * bytes ≤ 2 ^ 26 * 4096 := Nat.mul_le_mul (by omega) hby
 obtain ⟨v', w3, ha, hr3, g1, g2, _⟩ := GB (P := prog) (ty := ty) hu i1 i2 i4 i5 (i3.trans rfl) hrow2 (KW hu hc1 hc2 hb2) (by simp only [maxLen]; omega) (by omega)
 have f3 : Fr (Bk v) w2 (Bk v') w3 := EZ g1 g2
 have h3 := f3.size
 have keep : ∀ b, b < w.heap.size → ¬ Bk v b → w3.heap[b]? = w.heap[b]? := fun b hb hn => by
  rw [f3.blk b (by omega) hn, f2.blk b hb (fun h => h)]
 refine ⟨_, _, v', w3, hrun, ha, ⟨fun b hb => ?_, cs ++ [c], fun b => (S b ∨ S' b) ∧ b < w.heap.size, ?_, ?_, ?_⟩, (f2.drop (fun _ h => h.elim)).trans f3, f2⟩
 · rcases f3.own b hb with h4 | h4
   · exact h.new b h4
   · exact ⟨by omega, fun hx => by have := hX b hx; omega⟩
 · refine RepE.snoc (Rep.agree (fun b hb hl' => ⟨⟨.inr hb, hl'⟩, by omega, keep b hl' (hS' b hb hl').2.2⟩) _ _ _ hr) (RepE.agree (fun b hb hl' => ⟨⟨.inl hb, hl'⟩, by omega, keep b hl' (hS b hb).2.2⟩) hre)
 · rintro b ⟨hb, hl'⟩
   have h5 : L b ∧ ¬ X b ∧ ¬ Bk v b := hb.elim (hS b) (fun h => hS' b h hl')
   refine ⟨h5.1, h5.2.1, fun ho => ?_⟩
   rcases f3.own b ho with h4 | h4
   · exact h5.2.2 h4
   · omega
 · rw [List.flatten_append, List.length_append]; simpa using hr3
theorem Gr.list (h : Gr L X lo tid e l v w) : Rep w (fun b => L b ∨ lo ≤ b) (.list l) (.list e) [v] := by
 obtain ⟨cs, S, hre, hS, hrow⟩ := h.rep
 have hre' : RepE w (fun b => L b ∨ lo ≤ b) e l cs := RepE.agree (fun b hb hl => ⟨.inl (hS b hb).1, hl, rfl⟩) hre
 simp only [Rep]
 rcases hrow.2 with ⟨rfl, h0⟩ | ⟨g, cap, cur, rfl, _, hg, h1, h2, h3, h4⟩
 · left
   exact ⟨⟨_, _, rfl⟩, List.eq_nil_of_length_eq_zero (by omega)⟩
 · right
   refine ⟨g, 0, cap, rfl, .inr (h.new g V).1, (Array.getElem?_eq_some_iff.1 hg).1, by omega, h2, Kt hre' ?_⟩
   intro j x hj
   rw [← h4, List.getElem?_take] at hj
   split at hj
   · simpa [World.cell?, hg] using hj
   · cases hj
end
end Go.Sx
namespace Go.Sx
open Go.Proofs Go.Proofs.Tryz
def QX (l0 l1 l2 l3 l4 l5 : Bool) : List Nat :=
 (if l0 then [] else [0]) ++ ((if l1 || !l0 then [] else [1]) ++ ((if l2 then [] else [2]) ++ ((if l3 || !(l1 && l2) then [] else [3]) ++ ((if l4 then [] else [4]) ++ ((if l5 then [] else [5]) ++
  (if l0 && l1 && l2 && l3 && l4 && l5 then [6] else []))))))
structure Sc (ops : Array Oper) : Prop where
 i0 : ∃ ty pos aft, ops[0]? = some ⟨some 30, .load 43 (.tmp 5), ty, pos, aft, none⟩
 i1 : ∃ ty pos aft, ops[1]? = some ⟨some 31, .call { callee := .value (.func 19), args := #[.tmp 30], argTypes := #[43] }, ty, pos, aft, none⟩
 i2 : ∃ ty pos aft, ops[2]? = some ⟨some 32, .load 43 (.tmp 6), ty, pos, aft, none⟩
 i3 : ∃ ty pos aft, ops[3]? = some ⟨some 33, .call { callee := .value (.func 19), args := #[.tmp 32], argTypes := #[43] }, ty, pos, aft, none⟩
 i4 : ∃ ty pos aft, ops[4]? = some ⟨some 11, .alloc 36, ty, pos, aft, none⟩
 i5 : ∃ ty pos aft, ops[5]? = some ⟨some 12, .alloc 36, ty, pos, aft, none⟩
 i6 : ∃ ty pos aft, ops[6]? = some ⟨none, .store 36 (.tmp 11) (.tmp 31), ty, pos, aft, none⟩
 i7 : ∃ ty pos aft, ops[7]? = some ⟨none, .store 36 (.tmp 12) (.tmp 33), ty, pos, aft, none⟩
 rd : ∀ l0 l1 l2 l3 l4 l5 : Bool, (l1 = true → l0 = true) → (l3 = true → l1 = true ∧ l2 = true) → Region.ready .any ops #[l0, l1, l2, l3, l4, l5, false, false] = QX l0 l1 l2 l3 l4 l5
 rd6 : Region.ready .any ops #[true, true, true, true, true, true, true, false] = [7]
 rd7 : Region.ready .any ops #[true, true, true, true, true, true, true, true] = []
theorem kb {w w' : World} (f : F0 w w') {b t : Nat} {cs : List Value} (h : Blk w b cs t) : Blk w' b cs t := (Fr.blk f b h.lt (fun h => h)).trans h
end Go.Sx
