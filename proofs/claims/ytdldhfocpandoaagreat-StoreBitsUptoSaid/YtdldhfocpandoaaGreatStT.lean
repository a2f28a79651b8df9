import Derived.Test.YtdldhfocpandoaaGreatStF
import Derived.Test.YtdldhfocpandoaaGreatStR
namespace Go.Sx
open Go.Proofs
structure Gr (L X : Nat → Prop) (lo tid : Nat) (e : Ty) (l : List T) (v : Value) (w : World) : Prop where
 new : ∀ b, ownB v b → lo ≤ b ∧ ¬ X b
 rep : ∃ (cs : List (List Value)) (S : Nat → Prop), RepE w S e l cs ∧ (∀ b, S b → L b ∧ ¬ X b ∧ ¬ ownB v b) ∧ w.ownsRow 0 tid e.size v l.length cs.flatten
section
variable {L X : Nat → Prop} {lo tid : Nat} {e : Ty} {l : List T} {v : Value} {w : World}
theorem Gr.start : Gr L X lo tid e [] (.slice none 0 0) w :=
 ⟨fun b hb => by simp [ownB, Value.ownBlock] at hb, [], fun _ => False, trivial, fun _ h => h.elim, World.ownsRow_nil _ _ _ _⟩
theorem Gr.turn (h : Gr L X lo tid e l v w) {O O' : Nat → Prop} {w' : World} (f : Fr O w O' w') (hO : ∀ b, O b → X b) : Gr L X lo tid e l v w' := by
 obtain ⟨cs, S, h1, h2, h3⟩ := h.rep
 refine ⟨h.new, cs, S, RepE.agree (fun b hb hl => ⟨hb, Nat.lt_of_lt_of_le hl f.size, f.blk b hl (fun ho => (h2 b hb).2.1 (hO b ho))⟩) h1, h2, ownsRow_agree h3 (fun b hb => f.blk b (ownsRow_own_lt h3 hb) (fun ho => (h.new b hb).2 (hO b ho)))⟩
theorem Gr.step {ts bytes : Nat} {ty : TypeId} (hu : Tryz.prog.underlying ts = some (.slice tid)) (hi : EInfo Tryz.prog tid e.size bytes) (hby : bytes ≤ 4096) (hsz : 0 < e.size) (hsz2 : e.size ≤ 2 ^ 24)
 (h : Gr L X lo tid e l v w) {t : T} {c : List Value} {S' : Nat → Prop} (hr : Rep w S' t e c) (hS' : ∀ b, S' b → b < w.heap.size → L b ∧ ¬ X b ∧ ¬ ownB v b) (hlen : l.length < 2 ^ 25) (hlo : lo ≤ w.heap.size) (hX : ∀ b, X b → b < w.heap.size) :
 ∃ vb w2 v' w3, (Instr.buildSlice ts 1 #[(0, valOf e c)]).run Tryz.prog w = .ok vb w2 ∧ (Builtin.append_ #[ts, ts] ty #[v, vb]).run Tryz.prog w2 = .ok v' w3 ∧ Gr L X lo tid e (l ++ [t]) v' w3 ∧ Fr (ownB v) w (ownB v') w3 ∧ Fr (fun _ => False) w (fun _ => False) w2 := by
 obtain ⟨cs, S, hre, hS, hrow⟩ := h.rep
 obtain ⟨hc1, hc2⟩ := Rep.one _ _ _ hr
 obtain ⟨ii, z, i1, i2, i3, i4, i5⟩ := hi
 have f2 : Fr (fun _ => False) w (fun _ => False) (w.alloc (.cells c.toArray tid)) := Fr.alloc _ _ _
 have hb2 : Blk (w.alloc (.cells c.toArray tid)) w.heap.size c tid := Blk.alloc_new
 have hs2 : (w.alloc (.cells c.toArray tid)).heap.size = w.heap.size + 1 := by simp
 have hrun := slice_elem (P := Tryz.prog) (w := w) (v := valOf e c) hu ⟨ii, z, i1, i2, i3, i4, i5⟩ hsz hsz2 (valOf_cells hr) hc1
 generalize w.alloc (.cells c.toArray tid) = w2 at f2 hb2 hs2 hrun
 have hrow2 : w2.ownsRow 0 tid e.size v l.length cs.flatten := ownsRow_agree hrow (fun b hb => f2.blk b (ownsRow_own_lt hrow hb) (fun h => h))
 have hmul : (l.length + 1) * bytes ≤ 2 ^ 26 * 4096 := Nat.mul_le_mul (by omega) hby
 obtain ⟨v', w3, ha, hr3, g1, g2, _⟩ := append_own (P := Tryz.prog) (ty := ty) hu i1 i2 i4 i5 (i3.trans rfl) hrow2 (row_src hu hc1 hc2 hb2) (by simp only [maxLen]; omega) (by omega)
 have f3 : Fr (ownB v) w2 (ownB v') w3 := Fr.of_grown g1 g2
 have h3 := f3.size
 have keep : ∀ b, b < w.heap.size → ¬ ownB v b → w3.heap[b]? = w.heap[b]? := fun b hb hn => by
  rw [f3.blk b (by omega) hn, f2.blk b hb (fun h => h)]
 refine ⟨_, _, v', w3, hrun, ha, ⟨fun b hb => ?_, cs ++ [c], fun b => (S b ∨ S' b) ∧ b < w.heap.size, ?_, ?_, ?_⟩, (f2.drop (fun _ h => h.elim)).trans f3, f2⟩
 · rcases f3.own b hb with h4 | h4
   · exact h.new b h4
   · exact ⟨by omega, fun hx => by have := hX b hx; omega⟩
 · refine RepE.snoc (Rep.agree (fun b hb hl' => ⟨⟨.inr hb, hl'⟩, by omega, keep b hl' (hS' b hb hl').2.2⟩) _ _ _ hr) (RepE.agree (fun b hb hl' => ⟨⟨.inl hb, hl'⟩, by omega, keep b hl' (hS b hb).2.2⟩) hre)
 · rintro b ⟨hb, hl'⟩
   have h5 : L b ∧ ¬ X b ∧ ¬ ownB v b := hb.elim (hS b) (fun h => hS' b h hl')
   refine ⟨h5.1, h5.2.1, fun ho => ?_⟩
   rcases f3.own b ho with h4 | h4
   · exact h5.2.2 h4
   · omega
 · rw [List.flatten_append, List.length_append]; simpa using hr3
theorem Gr.list (h : Gr L X lo tid e l v w) : Rep w (fun b => L b ∨ lo ≤ b) (.list l) (.list e) [v] := by
 obtain ⟨cs, S, hre, hS, hrow⟩ := h.rep
 have hre' : RepE w (fun b => L b ∨ lo ≤ b) e l cs := RepE.agree (fun b hb hl => ⟨.inl (hS b hb).1, hl, rfl⟩) hre
 simp only [Rep]
 rcases hrow.2 with ⟨rfl, h0⟩ | ⟨g, cap, cur, rfl, _, hg, h1, h2, h3, h4⟩
 · left
   exact ⟨⟨_, _, rfl⟩, List.eq_nil_of_length_eq_zero (by omega)⟩
 · right
   refine ⟨g, 0, cap, rfl, .inr (h.new g rfl).1, (Array.getElem?_eq_some_iff.1 hg).1, by omega, h2, RepE.toL hre' ?_⟩
   intro j x hj
   rw [← h4, List.getElem?_take] at hj
   split at hj
   · simpa [World.cell?, hg] using hj
   · cases hj
end
end Go.Sx
namespace Go.Sx
open Go.Proofs
def env3 (l0 l1 l2 l3 l4 l5 : Bool) (v0 v1 v2 v3 vn vl vc : Value) (xa xb b c : Nat) : Env :=
 (2, vn) :: (3, vl) :: (4, vc) :: (5, ptr xa) :: (6, ptr xb) ::
  ((match l0 with | true => [(30, v0)] | false => []) ++ ((match l2 with | true => [(32, v2)] | false => []) ++ ((match l1 with | true => [(31, v1)] | false => []) ++
   ((match l3 with | true => [(33, v3)] | false => []) ++ ((match l4 with | true => [(11, ptr b)] | false => []) ++ (match l5 with | true => [(12, ptr c)] | false => []))))))
def rdy3 (l0 l1 l2 l3 l4 l5 : Bool) : List Nat :=
 (if l0 then [] else [0]) ++ ((if l1 || !l0 then [] else [1]) ++ ((if l2 then [] else [2]) ++ ((if l3 || !(l1 && l2) then [] else [3]) ++ ((if l4 then [] else [4]) ++ ((if l5 then [] else [5]) ++
  (if l0 && l1 && l2 && l3 && l4 && l5 then [6] else []))))))
theorem mem_rdy3 {k : Nat} {l0 l1 l2 l3 l4 l5 : Bool} (h : k ∈ rdy3 l0 l1 l2 l3 l4 l5) : (k = 0 ∧ l0 = false) ∨ (k = 1 ∧ l1 = false ∧ l0 = true) ∨ (k = 2 ∧ l2 = false) ∨ (k = 3 ∧ l3 = false ∧ l1 = true ∧ l2 = true) ∨
 (k = 4 ∧ l4 = false) ∨ (k = 5 ∧ l5 = false) ∨ (k = 6 ∧ l0 = true ∧ l1 = true ∧ l2 = true ∧ l3 = true ∧ l4 = true ∧ l5 = true) := by
 simp only [rdy3, List.mem_append] at h
 rcases h with h | h | h | h | h | h | h
 · cases l0 <;> simp at h; exact .inl ⟨h, rfl⟩
 · cases l1 <;> cases l0 <;> simp at h; exact .inr (.inl ⟨h, rfl, rfl⟩)
 · cases l2 <;> simp at h; exact .inr (.inr (.inl ⟨h, rfl⟩))
 · cases l3 <;> cases l1 <;> cases l2 <;> simp at h; exact .inr (.inr (.inr (.inl ⟨h, rfl, rfl, rfl⟩)))
 · cases l4 <;> simp at h; exact .inr (.inr (.inr (.inr (.inl ⟨h, rfl⟩))))
 · cases l5 <;> simp at h; exact .inr (.inr (.inr (.inr (.inr (.inl ⟨h, rfl⟩)))))
 · cases l0 <;> cases l1 <;> cases l2 <;> cases l3 <;> cases l4 <;> cases l5 <;> simp at h; exact .inr (.inr (.inr (.inr (.inr (.inr ⟨h, rfl, rfl, rfl, rfl, rfl, rfl⟩)))))
theorem rdy3_ne {l0 l1 l2 l3 l4 l5 : Bool} : rdy3 l0 l1 l2 l3 l4 l5 ≠ [] := by
 cases l0 <;> cases l1 <;> cases l2 <;> cases l3 <;> cases l4 <;> cases l5 <;> decide
structure Ops3 (ops : Array Oper) : Prop where
 i0 : ∃ ty pos aft, ops[0]? = some ⟨some 30, .load 43 (.tmp 5), ty, pos, aft, none⟩
 i1 : ∃ ty pos aft, ops[1]? = some ⟨some 31, .call { callee := .value (.func 19), args := #[.tmp 30], argTypes := #[43] }, ty, pos, aft, none⟩
 i2 : ∃ ty pos aft, ops[2]? = some ⟨some 32, .load 43 (.tmp 6), ty, pos, aft, none⟩
 i3 : ∃ ty pos aft, ops[3]? = some ⟨some 33, .call { callee := .value (.func 19), args := #[.tmp 32], argTypes := #[43] }, ty, pos, aft, none⟩
 i4 : ∃ ty pos aft, ops[4]? = some ⟨some 11, .alloc 36, ty, pos, aft, none⟩
 i5 : ∃ ty pos aft, ops[5]? = some ⟨some 12, .alloc 36, ty, pos, aft, none⟩
 i6 : ∃ ty pos aft, ops[6]? = some ⟨none, .store 36 (.tmp 11) (.tmp 31), ty, pos, aft, none⟩
 i7 : ∃ ty pos aft, ops[7]? = some ⟨none, .store 36 (.tmp 12) (.tmp 33), ty, pos, aft, none⟩
 rd : ∀ l0 l1 l2 l3 l4 l5 : Bool, (l1 = true → l0 = true) → (l3 = true → l1 = true ∧ l2 = true) → Region.ready .any ops #[l0, l1, l2, l3, l4, l5, false, false] = rdy3 l0 l1 l2 l3 l4 l5
 rd6 : Region.ready .any ops #[true, true, true, true, true, true, true, false] = [7]
 rd7 : Region.ready .any ops #[true, true, true, true, true, true, true, true] = []
theorem kb {w w' : World} (f : F0 w w') {b t : Nat} {cs : List Value} (h : Blk w b cs t) : Blk w' b cs t := (Fr.blk f b h.lt (fun h => h)).trans h
set_option maxHeartbeats 2000000 in
theorem r3 {ops : Array Oper} {Q : Exit → Act → World → Prop} {w0 : World} {bs es : List Value} (hbs : Nine bs) (hes : Nine es) {xa xb : Nat} (ha : Blk w0 xa bs 43) (hb : Blk w0 xb es 43) {vn vl vc : Value} (O : Ops3 ops)
 (hQ : ∀ b c w, b ≠ c → w0.heap.size ≤ b → w0.heap.size ≤ c → F0 w0 w → Blk w b (sheetB bs) 36 → Blk w c (sheetB es) 36 → ∀ a, Loc 83 [] [(2, vn), (3, vl), (4, vc), (11, ptr b), (12, ptr c)] a → Q .normal a w) :
 ∀ (f : Nat) (l0 l1 l2 l3 l4 l5 : Bool), (l1 = true → l0 = true) → (l3 = true → l1 = true ∧ l2 = true) → 8 ≤ f + (l0.toNat + l1.toNat + l2.toNat + l3.toNat + l4.toNat + l5.toNat) → ∀ (w : World) (b c : Nat), F0 w0 w →
  (l4 = true → w0.heap.size ≤ b ∧ Blk w b zsheet 36) → (l5 = true → w0.heap.size ≤ c ∧ Blk w c zsheet 36) → (l4 = true → l5 = true → b ≠ c) →
  AL Tryz.prog ops Q f #[l0, l1, l2, l3, l4, l5, false, false] 83 [] (env3 l0 l1 l2 l3 l4 l5 (.agg bs.toArray) (.agg (sheetB bs).toArray) (.agg es.toArray) (.agg (sheetB es).toArray) vn vl vc xa xb b c) w := by
 intro f
 induction f with
 | zero =>
  intro l0 l1 l2 l3 l4 l5 _ _ hs
  cases l0 <;> cases l1 <;> cases l2 <;> cases l3 <;> cases l4 <;> cases l5 <;> exact absurd hs (by decide)
 | succ f ih =>
  intro l0 l1 l2 l3 l4 l5 h1 h3 hs w b c F h4 h5 h45
  refine AL.all (O.rd l0 l1 l2 l3 l4 l5 h1 h3) rdy3_ne ?_
  intro k hk
  rcases mem_rdy3 hk with ⟨rfl, rfl⟩ | ⟨rfl, rfl, rfl⟩ | ⟨rfl, rfl⟩ | ⟨rfl, rfl, rfl, rfl⟩ | ⟨rfl, rfl⟩ | ⟨rfl, rfl⟩ | ⟨rfl, rfl, rfl, rfl, rfl, rfl, rfl⟩
  · obtain ⟨ty, pos, aft, hi⟩ := O.i0
    refine wpOp_one hi (WL.ld rfl (loadN ty43 hbs.len (kb F ha).all) rfl (WL.on (AL.weak _ ?_ (ih true l1 l2 l3 l4 l5 (fun _ => rfl) h3 (by simp only [Bool.toNat_false, Bool.toNat_true] at hs ⊢; omega) w b c F h4 h5 h45))))
    cases l1 <;> cases l2 <;> cases l3 <;> cases l4 <;> cases l5 <;> exact ⟨rfl, rfl, rfl, rfl, rfl, rfl, by repeat (first | exact trivial | refine ⟨rfl, ?_⟩)⟩
  · obtain ⟨ty, pos, aft, hi⟩ := O.i1
    refine wpOp_one hi (WL.cl Tryz.call19 rfl rfl (c19 hbs) ?_ nop)
    rintro _ w' ⟨rfl, f'⟩
    refine WL.on (AL.weak _ ?_ (ih true true l2 l3 l4 l5 (fun _ => rfl) (fun h => ⟨rfl, (h3 h).2⟩) (by simp only [Bool.toNat_false, Bool.toNat_true] at hs ⊢; omega) w' b c (F.trans f') (fun h => ⟨(h4 h).1, kb f' (h4 h).2⟩) (fun h => ⟨(h5 h).1, kb f' (h5 h).2⟩) h45))
    cases l2 <;> cases l3 <;> cases l4 <;> cases l5 <;> exact ⟨rfl, rfl, rfl, rfl, rfl, rfl, by repeat (first | exact trivial | refine ⟨rfl, ?_⟩)⟩
  · obtain ⟨ty, pos, aft, hi⟩ := O.i2
    refine wpOp_one hi (WL.ld rfl (loadN ty43 hes.len (kb F hb).all) rfl (WL.on (AL.weak _ ?_ (ih l0 l1 true l3 l4 l5 h1 (fun h => ⟨(h3 h).1, rfl⟩) (by simp only [Bool.toNat_false, Bool.toNat_true] at hs ⊢; omega) w b c F h4 h5 h45))))
    cases l0 <;> cases l1 <;> cases l3 <;> cases l4 <;> cases l5 <;> exact ⟨rfl, rfl, rfl, rfl, rfl, rfl, by repeat (first | exact trivial | refine ⟨rfl, ?_⟩)⟩
  · obtain rfl := h1 rfl
    obtain ⟨ty, pos, aft, hi⟩ := O.i3
    refine wpOp_one hi (WL.cl Tryz.call19 rfl rfl (c19 hes) ?_ nop)
    rintro _ w' ⟨rfl, f'⟩
    refine WL.on (AL.weak _ ?_ (ih true true true true l4 l5 (fun _ => rfl) (fun _ => ⟨rfl, rfl⟩) (by simp only [Bool.toNat_false, Bool.toNat_true] at hs ⊢; omega) w' b c (F.trans f') (fun h => ⟨(h4 h).1, kb f' (h4 h).2⟩) (fun h => ⟨(h5 h).1, kb f' (h5 h).2⟩) h45))
    cases l4 <;> cases l5 <;> exact ⟨rfl, rfl, rfl, rfl, rfl, rfl, by repeat (first | exact trivial | refine ⟨rfl, ?_⟩)⟩
  · obtain ⟨ty, pos, aft, hi⟩ := O.i4
    refine wpOp_one hi (WL.alloc (zero36 _) rfl ?_)
    have f' : F0 w (w.alloc (.cells zsheet.toArray 36)) := Fr.alloc _ _ _
    refine WL.on (AL.weak _ ?_ (ih l0 l1 l2 l3 true l5 h1 h3 (by simp only [Bool.toNat_false, Bool.toNat_true] at hs ⊢; omega) (w.alloc (.cells zsheet.toArray 36)) w.heap.size c (F.trans f') (fun _ => ⟨F.size, Blk.alloc_new⟩) (fun h => ⟨(h5 h).1, kb f' (h5 h).2⟩) (fun _ h => by have := (h5 h).2.lt; omega)))
    cases l0 <;> cases l1 <;> cases l2 <;> cases l3 <;> cases l5 <;> exact ⟨rfl, rfl, rfl, rfl, rfl, rfl, by repeat (first | exact trivial | refine ⟨rfl, ?_⟩)⟩
  · obtain ⟨ty, pos, aft, hi⟩ := O.i5
    refine wpOp_one hi (WL.alloc (zero36 _) rfl ?_)
    have f' : F0 w (w.alloc (.cells zsheet.toArray 36)) := Fr.alloc _ _ _
    refine WL.on (AL.weak _ ?_ (ih l0 l1 l2 l3 l4 true h1 h3 (by simp only [Bool.toNat_false, Bool.toNat_true] at hs ⊢; omega) (w.alloc (.cells zsheet.toArray 36)) b w.heap.size (F.trans f') (fun h => ⟨(h4 h).1, kb f' (h4 h).2⟩) (fun _ => ⟨F.size, Blk.alloc_new⟩) (fun h _ => by have := (h4 h).2.lt; omega)))
    cases l0 <;> cases l1 <;> cases l2 <;> cases l3 <;> cases l4 <;> exact ⟨rfl, rfl, rfl, rfl, rfl, rfl, by repeat (first | exact trivial | refine ⟨rfl, ?_⟩)⟩
  · obtain ⟨ty, pos, aft, hi⟩ := O.i6
    obtain ⟨ty7, pos7, aft7, hi7⟩ := O.i7
    obtain ⟨g, rfl⟩ : ∃ g, f = g + 1 := ⟨f - 1, by simp only [Bool.toNat_true] at hs; omega⟩
    have hne := h45 rfl rfl
    have hB := (h4 rfl).2
    have hC := (h5 rfl).2
    have hst := store36 hB rfl hbs.slen hbs.one
    have hB' : Blk (w.setRow b (sheetB bs).toArray) b (sheetB bs) 36 := hB.setRow _
    have hC' : Blk (w.setRow b (sheetB bs).toArray) c zsheet 36 := (setRow_other _ _ _ _ hne.symm).trans hC
    have hst2 := store36 hC' rfl hes.slen hes.one
    have hC2 : Blk ((w.setRow b (sheetB bs).toArray).setRow c (sheetB es).toArray) c (sheetB es) 36 := hC'.setRow _
    have hB2 : Blk ((w.setRow b (sheetB bs).toArray).setRow c (sheetB es).toArray) b (sheetB bs) 36 := (setRow_other _ _ _ _ hne).trans hB'
    have Fe : F0 w0 ((w.setRow b (sheetB bs).toArray).setRow c (sheetB es).toArray) := by
     have g1 := (h4 rfl).1
     have g2 := (h5 rfl).1
     refine ⟨F.os, F.tape, F.output, by simpa using F.size, fun k hk _ => ?_, fun _ h => h.elim⟩
     rw [setRow_other _ _ _ _ (by omega), setRow_other _ _ _ _ (by omega)]
     exact Fr.blk F k hk (fun h => h)
    refine wpOp_one hi (WL.so rfl rfl hst (WL.on (AL.one (i := 7) O.rd6 hi7 (WL.so rfl rfl hst2 (WL.on (AL.done O.rd7 (fun a ha => hQ b c _ hne (h4 rfl).1 (h5 rfl).1 Fe hB2 hC2 a (ha.weak ?_))))))))
    exact ⟨rfl, rfl, rfl, rfl, rfl, trivial⟩
end Go.Sx
namespace Go.Sx
open Go.Proofs
def useB (v : Value) : List Value → List Value
 | [] => []
 | b :: r => b :: v :: r
theorem useB_nil {bs : List Value} (h : Nine bs) : useB (.slice none 0 0) bs = sheetB bs := by cases h; rfl
theorem useB_len {bs : List Value} (h : Nine bs) {v : Value} : (useB v bs).length = 10 := by cases h; rfl
theorem useB_get {bs : List Value} (h : Nine bs) {v : Value} : (useB v bs)[1]? = some v := by cases h; rfl
theorem useB_set {bs : List Value} (h : Nine bs) {v v' : Value} : splice (useB v bs) 1 [v'] = useB v' bs := by cases h; rfl
set_option maxHeartbeats 1000000 in
theorem with_uses {w : World} {S : Nat → Prop} {t : T} {bs : List Value} (h : Nine bs) (hr : Rep w S t (.st .sheet) (sheetB bs)) : ∃ t0 r, t = .agg .sheet (t0 :: .list [] :: r) ∧
 ∀ {w' : World} {S' : Nat → Prop}, (∀ b, S b → b < w.heap.size → S' b ∧ b < w'.heap.size ∧ w'.heap[b]? = w.heap[b]?) → ∀ {l : List T} {v : Value}, Rep w' S' (.list l) (.list (.st .use)) [v] → Rep w' S' (.agg .sheet (t0 :: .list l :: r)) (.st .sheet) (useB v bs) := by
 cases h
 rename_i s g1 n1 c1 g2 n2 c2 g3 n3 c3 g4 n4 c4 g5 n5 c5 g6 n6 c6 g7 n7 c7 g8 n8 c8
 obtain ⟨fl, rfl, hlen, hF⟩ := hr.st_inv
 obtain ⟨t0, fl, rfl, q0, hF⟩ := hF.cons_inv
 obtain ⟨t1, fl, rfl, q1, hF⟩ := hF.cons_inv
 obtain ⟨t2, fl, rfl, q2, hF⟩ := hF.cons_inv
 obtain ⟨t3, fl, rfl, q3, hF⟩ := hF.cons_inv
 obtain ⟨t4, fl, rfl, q4, hF⟩ := hF.cons_inv
 obtain ⟨t5, fl, rfl, q5, hF⟩ := hF.cons_inv
 obtain ⟨t6, fl, rfl, q6, hF⟩ := hF.cons_inv
 obtain ⟨t7, fl, rfl, q7, hF⟩ := hF.cons_inv
 obtain ⟨t8, fl, rfl, q8, hF⟩ := hF.cons_inv
 obtain ⟨t9, fl, rfl, q9, hF⟩ := hF.cons_inv
 obtain rfl := hF.nil_inv
 simp only [Nat.zero_add, Ty.size, sheetB, List.drop_succ_cons, List.drop_zero, List.take_succ_cons, List.take_zero] at q1
 obtain ⟨l1, rfl, hl⟩ := q1.list_inv
 have hnil : l1 = [] := by
  rcases hl with ⟨_, h⟩ | ⟨b, o, cap, h, _⟩
  · exact h
  · cases h
 subst hnil
 refine ⟨t0, [t2, t3, t4, t5, t6, t7, t8, t9], rfl, fun {w' S'} hw {l v} hu => ?_⟩
 have hr' := Rep.agree hw _ _ _ hr
 unfold Rep at hr'
 obtain ⟨_, _, hF'⟩ := hr'
 simp only [SN.fields, RepF, sheetB, Ty.size, Nat.zero_add, Nat.reduceAdd, List.drop_succ_cons, List.drop_zero, List.take_succ_cons, List.take_zero] at hF'
 obtain ⟨p0, _, p2, p3, p4, p5, p6, p7, p8, p9, _⟩ := hF'
 simp only [useB]
 unfold Rep
 refine ⟨rfl, rfl, ?_⟩
 simp only [SN.fields, RepF, Ty.size, Nat.zero_add, Nat.reduceAdd, List.drop_succ_cons, List.drop_zero, List.take_succ_cons, List.take_zero]
 exact ⟨p0, hu, p2, p3, p4, p5, p6, p7, p8, p9, trivial⟩
theorem use_rep {w : World} {S : Nat → Prop} {s : ByteArray} {pv : Value} {pt : T} {line col : Int} (hs : s.size ≤ maxLen) (hp : Rep w S pt (.ptr (.st .sheet)) [pv]) (hl : isInt line) (hc : isInt col) :
 Rep w S (.agg .use [.str s, pt, .int line, .int col]) (.st .use) [.string s, pv, .int .i64 line, .int .i64 col] := by
 unfold Rep
 refine ⟨rfl, rfl, ?_⟩
 simp only [SN.fields, RepF, Ty.size, Nat.zero_add, Nat.reduceAdd, List.drop_succ_cons, List.drop_zero, List.take_succ_cons, List.take_zero]
 refine ⟨?_, hp, ?_, ?_, trivial⟩
 · simp only [Rep]; exact ⟨trivial, hs⟩
 · simp only [Rep]; exact ⟨trivial, hl⟩
 · simp only [Rep]; exact ⟨trivial, hc⟩
theorem run_use {w : World} {s : ByteArray} {line col : Int} : (Instr.build 48 #[(0, .string s), (2, .int .i64 line), (3, .int .i64 col)]).run Tryz.prog w = .ok (.agg [.string s, .pointer none, .int .i64 line, .int .i64 col].toArray) w := by
 simp [Instr.build, Tryz.zeroValue48, Tryz.runUnderlying48, Value.cells, Instr.fill]
theorem wts_app (l : List T) (t : T) : T.wts (l ++ [t]) = T.wts l + t.wt := by
 induction l with
 | nil => simp [T.wts]
 | cons g fs ih => simp only [List.cons_append, T.wts, ih]; omega
theorem ty48 : IsTy Tryz.prog 48 true 4 := iy48
theorem use4_one {s : ByteArray} {p : Option Addr} {line col : Int} : ∀ x ∈ [Value.string s, .pointer p, .int .i64 line, .int .i64 col], x.oneCell' = true := by
 intro x hx
 simp only [List.mem_cons, List.not_mem_nil, or_false] at hx
 rcases hx with h | h | h | h <;> subst h <;> rfl
theorem F0.of_J {w w3 w' : World} {J : Nat → Prop} (f : F0 w w3) (g : Fr J w3 J w') (hJ : ∀ k, k < w.heap.size → ¬ J k) : F0 w w' :=
 ⟨g.os.trans f.os, g.tape.trans f.tape, g.output.trans f.output, Nat.le_trans f.size g.size, fun k hk _ => by rw [Fr.blk g k (Nat.lt_of_lt_of_le hk f.size) (hJ k hk), Fr.blk f k hk (fun h => h)], fun _ h => h.elim⟩
set_option maxHeartbeats 4000000 in
set_option maxRecDepth 4000 in
theorem c4 {w : World} {t u : T} {bs es : List Value} {ln : List T} {cn : List Value} {line col : Int} (h : BitsOf w t bs) (k : BitsOf w u es) (hn : Rep w (fun _ => True) (.list ln) (.list .str) cn) (ht : t.wt ≤ 2097152) (hu : u.wt ≤ 2097152) (hil : isInt line) (hic : isInt col) :
 Calls Tryz.prog 4 [.agg bs.toArray, .agg es.toArray, valOf (.list .str) cn, .int .i64 line, .int .i64 col].toArray w (End (fun v w' => v = .bool true ∧ F0 w w') (fun _ _ => False)) := by
 have hlen := h.nine.len
 have hlen2 := k.nine.len
 obtain ⟨gn, capn, hvn, hmln, hgetn⟩ := list_at hn
 rw [hvn]
 refine cW 83 Tryz.func4 rfl rfl rfl ?_
 refine W.sq (W.rg (WL.box (v := .agg bs.toArray) rfl rfl ?_))
 have fa : F0 w (w.alloc (.cells bs.toArray 43)) := Fr.alloc _ _ _
 have aba : Blk (w.alloc (.cells bs.toArray 43)) w.heap.size bs 43 := Blk.alloc_new
 show WL _ _ _ _ _ _ _ (w.alloc (.cells bs.toArray 43))
 generalize w.alloc (.cells bs.toArray 43) = wa at fa aba ⊢
 generalize w.heap.size = bxa at aba ⊢
 refine WL.box (v := .agg es.toArray) rfl rfl ?_
 have fb : F0 wa (wa.alloc (.cells es.toArray 43)) := Fr.alloc _ _ _
 have abb : Blk (wa.alloc (.cells es.toArray 43)) wa.heap.size es 43 := Blk.alloc_new
 show WL _ _ _ _ _ _ _ (wa.alloc (.cells es.toArray 43))
 generalize wa.alloc (.cells es.toArray 43) = wb at fb abb ⊢
 generalize wa.heap.size = bxb at abb ⊢
 have fw : F0 w wb := fa.trans fb
 replace aba : Blk wb bxa bs 43 := kb fb aba
 have hw := h.fresh fw
 have kw := k.fresh fw
 refine WL.an rfl rfl (WL.nx ?_)
 refine W.sq (W.sq (W.rg (WL.mv rfl rfl (WL.len rfl (lS Tryz.underlying44) rfl (WL.bi rfl rfl (run_gtr (c := decide (20 < ln.length)) (decide_eq_decide.2 (by omega))) rfl (WL.mv rfl rfl ?_))))))
 cases hln : decide (20 < ln.length) with
 | true =>
  refine WL.skip _ _ _ rfl (WL.nx (W.ct rfl ?_))
  refine W.sq (W.rg (WL.cl Tryz.call13 rfl rfl c13 ?_ nop))
  rintro _ w2 ⟨rfl, f2⟩
  exact WL.an rfl rfl (WL.nx (W.ret fun a ha => tR (pR rfl ha rfl ⟨rfl, fw.trans f2⟩)))
 | false =>
 have hle : ln.length ≤ 20 := Nat.le_of_not_lt (of_decide_eq_false hln)
 refine WL.gd (j := 3) rfl rfl rfl (WL.ld rfl (loadN ty43 hlen aba.all) rfl (WL.gd (j := 3) rfl rfl rfl (WL.cl Tryz.call18 rfl rfl (c18 hw (by omega)) ?_ nop)))
 rintro _ w1 ⟨rfl, f1⟩
 refine WL.gd (j := 3) rfl rfl rfl (WL.not rfl rfl (WL.pick rfl rfl rfl (WL.mv rfl rfl ?_)))
 cases hl : lightOf t with
 | false =>
  refine WL.skip _ _ _ rfl (WL.nx (W.ct rfl ?_))
  refine W.sq (W.rg (WL.cl Tryz.call13 rfl rfl c13 ?_ nop))
  rintro _ w2 ⟨rfl, f2⟩
  exact WL.an rfl rfl (WL.nx (W.ret fun a ha => tR (pR rfl ha rfl ⟨rfl, (fw.trans f1).trans f2⟩)))
 | true =>
 refine WL.gd (j := 8) rfl rfl rfl (WL.ld rfl (loadN ty43 hlen2 (kb f1 abb).all) rfl (WL.gd (j := 8) rfl rfl rfl (WL.cl Tryz.call18 rfl rfl (c18 (kw.fresh f1) (by omega)) ?_ nop)))
 rintro _ w2 ⟨rfl, f2⟩
 have f02 := f1.trans f2
 refine WL.gd (j := 8) rfl rfl rfl (WL.not rfl rfl (WL.pick rfl rfl rfl (WL.nx (W.cond rfl (fun ht => ?_) (fun hf => W.skip fun a ha => tN ?_)))))
 · refine W.sq (W.rg (WL.cl Tryz.call13 rfl rfl c13 ?_ nop))
   rintro _ w3 ⟨rfl, f3⟩
   exact WL.an rfl rfl (WL.nx (W.ret fun a ha => tR (pR rfl ha rfl ⟨rfl, (fw.trans f02).trans f3⟩)))
 have hw2 := hw.fresh f02
 have kw2 := kw.fresh f02
 have fw2 : F0 w w2 := fw.trans f02
 refine W.run ha (W.seqI (ι := Nat × Nat × World) (fun i => [(2, .slice gn ln.length capn), (3, .int .i64 line), (4, .int .i64 col), (11, ptr i.1), (12, ptr i.2.1)])
  (fun i w' => w' = i.2.2 ∧ i.1 ≠ i.2.1 ∧ w2.heap.size ≤ i.1 ∧ w2.heap.size ≤ i.2.1 ∧ F0 w2 w' ∧ Blk w' i.1 (sheetB bs) 36 ∧ Blk w' i.2.1 (sheetB es) 36) ?_ ?_)
 · refine W.any mixed (AL.weak _ ?_ (r3 (w0 := w2.drewN 1) h.nine k.nine (xa := bxa) (xb := bxb) (kb f02 aba) (kb f02 abb) ⟨⟨_, _, _, rfl⟩, ⟨_, _, _, rfl⟩, ⟨_, _, _, rfl⟩, ⟨_, _, _, rfl⟩, ⟨_, _, _, rfl⟩, ⟨_, _, _, rfl⟩, ⟨_, _, _, rfl⟩, ⟨_, _, _, rfl⟩, by decide +kernel, by decide +kernel, by decide +kernel⟩
    (fun b c w3 h1 h2 h3 h4 h5 h6 a ha => tN ⟨(b, c, w3), ha, rfl, h1, h2, h3, (Fr.drewn 1).trans h4, h5, h6⟩) 8 false false false false false false (fun h => by cases h) (fun h => by cases h) (by decide) _ 0 0 (Fr.refl _ _) (fun h => by cases h) (fun h => by cases h) (fun h => by cases h)))
   exact ⟨rfl, rfl, rfl, rfl, rfl, trivial⟩
 rintro ⟨b, c, _⟩ w3 ⟨rfl, hbc, hb0, hc0, f3, hB, hC⟩
 simp only at hbc hb0 hc0 f3 hB hC ⊢
 have hbl := hB.lt
 have hcl := hC.lt
 have hs23 := f3.size
 have hsw2 := fw2.size
 obtain ⟨J, hJ⟩ : ∃ J : Nat → Prop, J = fun k => k = b ∨ w3.heap.size ≤ k := ⟨_, rfl⟩
 have hJ2 : ∀ k, k < w2.heap.size → ¬ J k := fun k hk hj => by rw [hJ] at hj; rcases hj with h | h <;> omega
 have hJw : ∀ k, k < w.heap.size → ¬ J k := fun k hk => hJ2 k (by omega)
 have old : ∀ {w' : World}, Fr J w3 J w' → F0 w w' := fun f => F0.of_J (fw2.trans f3) f hJw
 have old2 : ∀ {w' : World}, Fr J w3 J w' → F0 w2 w' := fun f => F0.of_J f3 f hJ2
 obtain ⟨bytes, hei, hby⟩ : ∃ bytes, EInfo Tryz.prog 48 (Ty.size (.st .use)) bytes ∧ bytes ≤ 4096 := einfo_le (by kernel_rfl)
 refine W.seqI (ι := Value × List T × World) (fun _ => [(11, ptr b), (12, ptr c)])
  (fun i w' => w' = i.2.2 ∧ i.2.1.length ≤ 20 ∧ Fr J w3 J w' ∧ Blk w' b (useB i.1 bs) 36 ∧ Gr (fun _ => True) (fun k => k = b) w3.heap.size 48 (.st .use) i.2.1 i.1 w' ∧ T.wts i.2.1 ≤ i.2.1.length * 2100000) ?_ ?_
 · refine W.sq (W.rg (WL.mv rfl rfl (WL.len rfl (lS Tryz.underlying44) rfl (WL.mv rfl rfl (WL.nx ?_)))))
   refine W.bk (W.loop (ι := Nat × Value × List T × World) (fun i => [(3, .int .i64 line), (4, .int .i64 col), (11, ptr b), (12, ptr c), (34, .slice gn ln.length capn), (35, .int .i64 (ln.length : Nat)), (36, .int .i64 (i.1 : Nat))])
    (fun i w' => w' = i.2.2.2 ∧ i.1 ≤ ln.length ∧ i.2.2.1.length = i.1 ∧ Fr J w3 J w' ∧ Blk w' b (useB i.2.1 bs) 36 ∧ Gr (fun _ => True) (fun k => k = b) w3.heap.size 48 (.st .use) i.2.2.1 i.2.1 w' ∧ T.wts i.2.2.1 ≤ i.1 * 2100000) (fun i => ln.length - i.1)
    (0, .slice none 0 0, [], w3) ⟨rfl, rfl, rfl, rfl, rfl, rfl, rfl, trivial⟩ ⟨rfl, Nat.zero_le _, rfl, Fr.refl _ _, by rw [useB_nil h.nine]; exact hB, Gr.start, by simp [T.wts]⟩ ?_)
   rintro ⟨i, v, l, _⟩ w4 ⟨rfl, hi, hll, g4, b4, gr4, hwt⟩
   simp only at hi hll g4 b4 gr4 hwt ⊢
   refine W.sq (W.rg (WL.bi rfl rfl (run_lss (c := decide (i < ln.length)) (decide_eq_decide.2 Int.ofNat_lt.symm)) rfl (WL.nx (W.sq ?_))))
   refine W.cond rfl (fun ht => W.skip fun a ha => tN ?_) (fun hf => W.exit fun a ha => tE (tE (eH (tN ?_))))
   rotate_left
   · exact ⟨(v, l, w4), ha.weak ⟨rfl, rfl, trivial⟩, rfl, by show l.length ≤ 20; omega, g4, b4, gr4, by show T.wts l ≤ l.length * 2100000; rw [hll]; exact hwt⟩
   have hlt : i < ln.length := of_decide_eq_true ht
   obtain ⟨y, hy⟩ : ∃ y, ln[i]? = some y := ⟨_, List.getElem?_eq_getElem hlt⟩
   obtain ⟨bn, on, dn, hix, _, hltn, hAn, rn⟩ := hgetn i y hy
   obtain ⟨s, rfl, rfl, hs⟩ := id rn.str_inv
   refine W.run ha (W.sq (W.bk ?_))
   refine W.sq (W.rg (WL.mv rfl rfl (WL.ix rfl rfl (hix _ Tryz.underlying44 iy9 rfl) rfl (WL.ld rfl (lR (f := .str) iy9 rn ((old g4).at_ hltn hAn)) rfl (WL.an rfl rfl (WL.an rfl rfl (WL.nx ?_)))))))
   refine W.sq (W.sq (W.rg (WL.mv rfl rfl (WL.len rfl (len_string Tryz.underlying9) rfl (WL.bi rfl rfl (run_gtr (c := decide (100 < s.size)) (decide_eq_decide.2 (by omega))) rfl (WL.nx (W.cond rfl (fun ht => ?_) (fun hf => W.skip fun a ha => tN ?_))))))))
   · refine W.sq (W.rg (WL.cl Tryz.call13 rfl rfl c13 ?_ nop))
     rintro _ w5 ⟨rfl, f5⟩
     exact WL.an rfl rfl (WL.nx (W.ret fun a ha => tR (bR (tR (tR (bR (tR (pR rfl ha rfl ⟨rfl, (old g4).trans f5⟩))))))))
   have hss : s.size ≤ 100 := Nat.le_of_not_lt (of_decide_eq_false hf)
   have f5 : F0 w4 (w4.alloc (.cells [.string ⟨#[]⟩, .pointer none, .int .i64 0, .int .i64 0].toArray 48)) := Fr.alloc _ _ _
   have b5 : Blk (w4.alloc (.cells [.string ⟨#[]⟩, .pointer none, .int .i64 0, .int .i64 0].toArray 48)) w4.heap.size [.string ⟨#[]⟩, .pointer none, .int .i64 0, .int .i64 0] 48 := Blk.alloc_new
   refine W.run ha (W.sq (W.rg (WL.mv rfl rfl (WL.mv rfl rfl (WL.mv rfl rfl (WL.build rfl run_use rfl (WL.alloc (Tryz.zeroValue48 _) rfl ?_)))))))
   show WL _ _ _ _ _ _ _ (w4.alloc (.cells [.string ⟨#[]⟩, .pointer none, .int .i64 0, .int .i64 0].toArray 48))
   generalize w4.alloc (.cells [.string ⟨#[]⟩, .pointer none, .int .i64 0, .int .i64 0].toArray 48) = w5 at f5 b5 ⊢
   obtain ⟨ub, hub⟩ : ∃ ub, ub = w4.heap.size := ⟨_, rfl⟩
   rw [← hub] at b5 ⊢
   have hst6 := store_at (P := Tryz.prog) (v := .agg [.string s, .pointer none, .int .i64 line, .int .i64 col].toArray) ty48 rfl rfl use4_one b5 (o := 0) (Nat.le_refl 4)
   have b6 : Blk (w5.setRow ub [.string s, .pointer none, .int .i64 line, .int .i64 col].toArray) ub [.string s, .pointer none, .int .i64 line, .int .i64 col] 48 := b5.setRow _
   have f6 : F0 w4 (w5.setRow ub [.string s, .pointer none, .int .i64 line, .int .i64 col].toArray) := ⟨f5.os, f5.tape, f5.output, by simpa using f5.size, fun k hk _ => by rw [setRow_other _ _ _ _ (by omega), Fr.blk f5 k hk (fun h => h)], fun _ h => h.elim⟩
   refine WL.so rfl rfl hst6 (WL.nx ?_)
   show W _ _ _ _ _ _ (w5.setRow ub [.string s, .pointer none, .int .i64 line, .int .i64 col].toArray)
   generalize w5.setRow ub [.string s, .pointer none, .int .i64 line, .int .i64 col].toArray = w6 at f6 b6 ⊢
   refine W.seqI (ι := Value × T × World) (fun _ => [(3, .int .i64 line), (4, .int .i64 col), (11, ptr b), (12, ptr c), (34, .slice gn ln.length capn), (35, .int .i64 (ln.length : Nat)), (36, .int .i64 (i : Nat)), (15, ptr ub)])
    (fun j w' => w' = j.2.2 ∧ F0 w4 w' ∧ (∃ p, j.1 = .pointer p) ∧ Blk w' ub [.string s, j.1, .int .i64 line, .int .i64 col] 48 ∧ j.2.1.wt ≤ 2097160 ∧ Rep w' (fun k => k < w3.heap.size ∧ k ≠ b) j.2.1 (.ptr (.st .sheet)) [j.1]) ?_ ?_
   · refine W.sq (W.rg (WL.mv rfl rfl (WL.bi rfl rfl rfl rfl (WL.bi rfl rfl (run_eql rfl) rfl (WL.nx ?_)))))
     refine W.cond rfl (fun ht => ?_) (fun hf => W.skip fun a ha => tN ⟨(.pointer none, .nil, w6), ha.weak ⟨rfl, rfl, rfl, rfl, rfl, rfl, rfl, rfl, trivial⟩, rfl, f6, ⟨_, rfl⟩, b6, by simp [T.wt], by simp only [Rep]⟩)
     have hst7 : (storeVar 46 ⟨ub, 1, none⟩ (ptr c)).run Tryz.prog w6 = .ok () (w6.setRow ub [.string s, ptr c, .int .i64 line, .int .i64 col].toArray) := store_at (P := Tryz.prog) (v := ptr c) (vs := [ptr c]) (n := 1) (agg := false) iy46 rfl rfl (by intro x hx; simp only [List.mem_singleton] at hx; subst hx; rfl) b6 (o := 1) (by simp)
     have b7 : Blk (w6.setRow ub [.string s, ptr c, .int .i64 line, .int .i64 col].toArray) ub [.string s, ptr c, .int .i64 line, .int .i64 col] 48 := b6.setRow _
     have f7 : F0 w4 (w6.setRow ub [.string s, ptr c, .int .i64 line, .int .i64 col].toArray) := ⟨f6.os, f6.tape, f6.output, by simpa using f6.size, fun k hk _ => by rw [setRow_other _ _ _ _ (by omega), Fr.blk f6 k hk (fun h => h)], fun _ h => h.elim⟩
     refine W.rg (WL.fa rfl (fld48_1 _ _ _) rfl (WL.so rfl rfl hst7 (WL.nil fun a ha => tN ⟨(ptr c, .ptr u, w6.setRow ub [.string s, ptr c, .int .i64 line, .int .i64 col].toArray), ha.weak ⟨rfl, rfl, rfl, rfl, rfl, rfl, rfl, rfl, trivial⟩, rfl, f7, ⟨_, rfl⟩, b7, by show (T.ptr u).wt ≤ 2097160; simp only [T.wt]; omega, ?_⟩)))
     have hsz7 := f7.size
     have hsz4 := g4.size
     have e7 : F0 w2 (w6.setRow ub [.string s, ptr c, .int .i64 line, .int .i64 col].toArray) := (old2 g4).trans f7
     have hC4 : Blk w4 c (sheetB es) 36 := (Fr.blk g4 c hcl (fun hj => by rw [hJ] at hj; rcases hj with h | h <;> omega)).trans hC
     simp only [Rep]
     exact ⟨c, 0, sheetB es, rfl, ⟨hcl, fun e => hbc e.symm⟩, by omega, (kb f7 hC4).all, k.nine.slen, Rep.agree (fun q _ hq => ⟨⟨by omega, by omega⟩, Nat.lt_of_lt_of_le hq e7.size, Fr.blk e7 q hq (fun h => h)⟩) _ _ _ kw2.rep⟩
   rintro ⟨pv, pt, _⟩ w7 ⟨rfl, f7, ⟨p, rfl⟩, b7, hptw, hrp⟩
   simp only at f7 b7 hptw hrp ⊢
   have hsz7 := f7.size
   have hsz4 := g4.size
   have gr7 := gr4.turn f7 (fun _ h => h.elim)
   have hru := use_rep hs hrp hil hic
   obtain ⟨vb, w8, v', w9, hr1, hr2, gr9, f9, _⟩ := gr7.step (ty := 26) Tryz.underlying26 hei hby (by decide) (by decide) hru (fun q hq _ => ⟨trivial, hq.2, fun ho => by have := (gr7.new q ho).1; omega⟩) (by omega) (by omega) (fun q hq => by omega)
   have hnob : ¬ ownB v b := fun ho => (gr7.new b ho).2 rfl
   have b47 : Blk w7 b (useB v bs) 36 := kb f7 b4
   have b9 : Blk w9 b (useB v bs) 36 := (Fr.blk f9 b (by omega) hnob).trans b47
   have hone9 : v'.oneCell' = true := (Rep.one _ _ _ gr9.list).2 v' (by simp)
   have hcv : v'.cells = [v'].toArray := valOf_cells (f := .list (.st .use)) gr9.list
   have hst10 := store_at (P := Tryz.prog) (v := v') (vs := [v']) (n := 1) (agg := false) iy26 hcv rfl (by intro x hx; simp only [List.mem_singleton] at hx; subst hx; exact hone9) b9 (o := 1) (by rw [useB_len h.nine]; simp)
   rw [useB_set h.nine] at hst10
   have b10 : Blk (w9.setRow b (useB v' bs).toArray) b (useB v' bs) 36 := b9.setRow _
   have gr10 := gr9.turn (Fr.setRow (O := fun k => k = b) (useB v' bs).toArray rfl) (fun _ h => h)
   have g10 : Fr J w3 J (w9.setRow b (useB v' bs).toArray) := g4.trans ((f7.drop (fun _ h => h.elim)).trans ((f9.drop (fun q ho => by rw [hJ]; exact .inr (gr7.new q ho).1)).trans (Fr.setRow _ (by rw [hJ]; exact .inl rfl))))
   refine W.rg (WL.fa rfl (fld36_1 _ _ _) rfl (WL.ld rfl (load1 iy26 (by rw [b47.cell]; exact useB_get h.nine)) rfl (WL.ld rfl (loadN ty48 rfl b7.all) rfl ?_)))
   refine WL.buildSlice rfl hr1 rfl (WL.append rfl rfl hr2 rfl (WL.fa rfl (fld36_1 _ _ _) rfl (WL.so rfl rfl hst10 (WL.nil fun a ha => bN (tN ?_)))))
   refine W.run ha (W.rg (WL.bi rfl rfl rfl rfl (WL.mv rfl rfl (WL.nil fun a ha => tN ?_))))
   refine ⟨(i + 1, v', l ++ [.agg .use [.str s, pt, .int line, .int col]], w9.setRow b (useB v' bs).toArray), ha.weak ⟨rfl, rfl, rfl, rfl, rfl, rfl, congrArg some (inc_i64 (by omega)), trivial⟩, ⟨rfl, hlt, by simp [hll], g10, b10, gr10, ?_⟩, Nat.sub_lt_sub_left hlt (Nat.lt_succ_self i)⟩
   show T.wts (l ++ [.agg .use [.str s, pt, .int line, .int col]]) ≤ (i + 1) * 2100000
   rw [wts_app]; simp only [T.wt, T.wts]
   omega
 · rintro ⟨v, l, _⟩ w4 ⟨rfl, hl20, g4, b4, gr4, hwt⟩
   simp only at hl20 g4 b4 gr4 hwt ⊢
   obtain ⟨t0, r, rfl, hmk⟩ := with_uses h.nine hw2.rep
   have f24 := old2 g4
   have ra : Rep w4 (fun _ => True) (.agg .sheet (t0 :: .list l :: r)) (.st .sheet) (useB v bs) := hmk (fun q _ hq => ⟨trivial, Nat.lt_of_lt_of_le hq f24.size, Fr.blk f24 q hq (fun h => h)⟩) (Rep.agree (fun q _ hq => ⟨trivial, hq, rfl⟩) _ _ _ gr4.list)
   have rb := kw2.rep.fresh f24
   have hC4 : Blk w4 c (sheetB es) 36 := (Fr.blk g4 c hcl (fun hj => by rw [hJ] at hj; rcases hj with h | h <;> omega)).trans hC
   have hwa : 11 * (T.agg .sheet (t0 :: .list l :: r)).wt ≤ 2 ^ 40 := by
    have hm : l.length * 2100000 ≤ 20 * 2100000 := Nat.mul_le_mul_right _ hl20
    simp only [T.wt, T.wts] at ht ⊢
    omega
   have hwb : 11 * u.wt ≤ 2 ^ 40 := by omega
   generalize T.agg .sheet (t0 :: .list l :: r) = A at ra hwa
   have la : ∀ w, F0 w4 w → (loadVar 36 ⟨b, 0, none⟩).run Tryz.prog w = .ok (.agg (useB v bs).toArray) w := fun w q => loadN ty36 (useB_len h.nine) (q.at_ b4.lt b4.all)
   have lb : ∀ w, F0 w4 w → (loadVar 36 ⟨c, 0, none⟩).run Tryz.prog w = .ok (.agg (sheetB es).toArray) w := fun w q => loadN ty36 k.nine.slen (q.at_ hC4.lt hC4.all)
   refine W.sq (W.quiet (F0 w4) mixed (by kernel_rfl) (F0.drawn (Fr.refl _ _)) ?_)
   refine QL.load rfl la rfl (QL.call Tryz.call20 rfl rfl (quiet_of fun w q => c20 (ra.fresh q) hwa) (QL.move rfl rfl ?_))
   refine QL.gd (j := 2) rfl rfl rfl (QL.load rfl la rfl (QL.gd (j := 2) rfl rfl rfl (QL.load rfl lb rfl (QL.gd (j := 2) rfl rfl rfl (QL.call Tryz.call21 rfl rfl (quiet_of fun w q => c21 (ra.fresh q) (rb.fresh q) hwa hwb) ?_)))))
   refine QL.gd (j := 2) rfl rfl rfl (QL.load rfl la rfl (QL.gd (j := 2) rfl rfl rfl (QL.load rfl lb rfl (QL.gd (j := 2) rfl rfl rfl (QL.call Tryz.call22 rfl rfl (quiet_of fun w q => c22 (ra.fresh q) (rb.fresh q) hwa hwb) ?_)))))
   refine QL.gd (j := 2) rfl rfl rfl (QL.binAny rfl rfl (fun w => guard_bool) (fun w => by rw [run_eql_bool, beq_self_eq_true]) rfl (QL.pick rfl rfl rfl (QL.move rfl rfl ?_)))
   refine QL.gd (j := 11) rfl rfl rfl (QL.load rfl la rfl (QL.gd (j := 11) rfl rfl rfl (QL.load rfl la rfl (QL.gd (j := 11) rfl rfl rfl (QL.call Tryz.call21 rfl rfl (quiet_of fun w q => c21 (ra.fresh q) (ra.fresh q) hwa hwa) ?_)))))
   refine QL.gd (j := 11) rfl rfl rfl (QL.load rfl la rfl (QL.gd (j := 11) rfl rfl rfl (QL.load rfl la rfl (QL.gd (j := 11) rfl rfl rfl (QL.call Tryz.call22 rfl rfl (quiet_of fun w q => c22 (ra.fresh q) (ra.fresh q) hwa hwa) ?_)))))
   refine QL.gd (j := 11) rfl rfl rfl (QL.binAny rfl rfl (fun w => guard_bool) (fun w => by rw [run_eql_bool, beq_self_eq_true]) rfl (QL.pick rfl rfl rfl (QL.move rfl rfl ?_)))
   refine QL.gd (j := 20) rfl rfl rfl (QL.call Tryz.call13 rfl rfl (quiet_of fun w _ => c13) ?_)
   exact QL.pick rfl rfl rfl (QL.assign rfl rfl (QL.next fun w5 h5 => W.ret fun a ha => pR rfl ha rfl ⟨rfl, (old g4).trans h5⟩))
end Go.Sx
