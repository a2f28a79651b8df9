import Derived.Test.YtdldhfocpandoaaGreatStA
import Derived.Orders
import Derived.Deep.Draws
import Derived.Test.YtdldhfocpandoaaGreatStI
import Derived.Test.YtdldhfocpandoaaGreatStC
set_option maxHeartbeats 8000000
set_option maxRecDepth 8000
namespace Go.Sx
def AL (P : Program) (ops : Array Oper) (Q : Exit → Act → World → Prop) (fuel : Nat) (listed : Array Bool) (n : Nat) (ds : List Deferred) (m : Env) (w : World) : Prop :=
 ∀ a, Loc n ds m a → wpAny P .any ops Q fuel listed a w
def Blind (Q : Exit → Act → World → Prop) : Prop := ∀ c a w d v, Q (.panic c) (a.put d v) w → Q (.panic c) a w
section
variable {P : Program} {ops : Array Oper} {Q : Exit → Act → World → Prop} {n : Nat} {ds : List Deferred} {m : Env} {w : World} {fuel : Nat} {listed : Array Bool}
theorem Bo {fn : Func} {R : Ending → World → Prop} : Blind (bodyPost P fn R) := by
 intro c a w d v h
 cases d <;> exact h
theorem Br {A : Act → World → Prop} (h : Blind Q) : Blind (Exit.then A Q) := fun c a w d v k => h c a w d v k
theorem Bl {id : Nat} (h : Blind Q) : Blind (Exit.inBlock id Q) := fun c a w d v k => h c a w d v k
theorem Hi {id : Nat} {l : List Oper} (hm : P.follows .mixedOrders = true)
 (h : AL P l.toArray Q l.length (Array.replicate l.length false) n ds m (w.drewN 1)) : W P (.region id l.toArray true) Q n ds m w :=
 fun a ha => wp_region_any hm (by have := h a ha; rw [List.size_toArray]; exact this)
def OL (ops : Array Oper) (listed : Array Bool) (i : Nat) : Bool := Region.noSelect ops && Region.free .any ops listed i && (Region.ready .any ops listed).contains i
theorem G5 {i d : Nat} {o : Oper} {v : Value} (hi : ops[i]? = some o) (hok : OL ops listed i = true)
 (hQ : Blind Q) (hg : o.guard = none) (hd : o.dst = some d) (hb : Nat.blt d n = true) (hy : ∀ a w, Loc n ds m a → (execOp a.eval o).run P w = .ok (.value v) w)
 (h : AL P ops Q fuel (listed.setIfInBounds i true) n ds ((d, v) :: m) w) : AL P ops Q (fuel + 1) listed n ds m w := by
 intro a ha
 simp only [OL, Bool.and_eq_true] at hok
 obtain ⟨⟨hs, hf⟩, hr⟩ := hok
 refine wpAny_take hi hs hf hr (fun c a w => hQ c a w _ _) (.inl ⟨by simp [Region.wanted, hg], fun w => hy a w ha⟩) ?_
 rw [hd]
 exact h _ (ha.put d v hb)
theorem Fs {i : Nat} {o : Oper} {K : Act → World → Prop} (hi : ops[i]? = some o) (h : WL P ops (Exit.then K Q) [o] n ds m w) : ∀ a, Loc n ds m a → wpOp P ops Q i K a w := by
 intro a ha
 have h1 := h a ha
 unfold wpList at h1
 unfold wpOp
 rw [hi]
 simp only
 split
 · rename_i hw
   rw [if_pos hw] at h1
   rcases h1 with h1 | h1
   · left
     unfold Oper.wp at h1 ⊢
     generalize (execOp a.eval o).run P w = r at h1 ⊢
     cases r with
     | ok nx w' =>
      cases nx <;> simp only [Oper.upon] at h1 ⊢
      case value u => exact h1
      case skip => exact h1
      case defer d => exact h1
      case enter f args =>
       refine h1.mono ?_
       intro e w'' he
       cases e with
       | returned u => exact he
       | panicked c => exact he
       | outgrown => exact he
      case row row args => exact Rows.mono h1 fun u w'' he => he
     | halt x w' =>
      cases x <;> simp only [Oper.upon] at h1 ⊢
      case panic u => exact h1
   · right
     exact h1
 · rename_i hw
   rw [if_neg hw] at h1
   exact h1
theorem MA {rs : List Nat} (hr : Region.ready .any ops listed = rs) (hne : rs ≠ [])
 (h : ∀ i ∈ rs, ∀ a, Loc n ds m a → wpOp P ops Q i (wpAny P .any ops Q fuel (listed.setIfInBounds i true)) a w) : AL P ops Q (fuel + 1) listed n ds m w :=
 fun a ha => wpAny_all hr hne (fun i hi => h i hi a ha)
theorem AX {i : Nat} {o : Oper} (hr : Region.ready .any ops listed = [i]) (hi : ops[i]? = some o) (h : WL P ops (Exit.then (wpAny P .any ops Q fuel (listed.setIfInBounds i true)) Q) [o] n ds m w) : AL P ops Q (fuel + 1) listed n ds m w :=
 MA hr (by simp) (by intro j hj; simp at hj; subst hj; exact Fs hi h)
theorem DN {i j : Nat} {o u : Oper} (hr : Region.ready .any ops listed = [i, j]) (hi : ops[i]? = some o) (hj : ops[j]? = some u)
 (h1 : WL P ops (Exit.then (wpAny P .any ops Q fuel (listed.setIfInBounds i true)) Q) [o] n ds m w)
 (h2 : WL P ops (Exit.then (wpAny P .any ops Q fuel (listed.setIfInBounds j true)) Q) [u] n ds m w) : AL P ops Q (fuel + 1) listed n ds m w :=
 MA hr (by simp) (by
  intro k hk
  simp at hk
  rcases hk with rfl | rfl
  · exact Fs hi h1
  · exact Fs hj h2)
theorem Cv (hr : Region.ready .any ops listed = []) (h : ∀ a, Loc n ds m a → Q .normal a w) : AL P ops Q fuel listed n ds m w := fun a ha => wpAny_done hr (h a ha) _
theorem Ba (h : AL P ops Q fuel listed n ds m w) : WL P ops (Exit.then (wpAny P .any ops Q fuel listed) Q) [] n ds m w := A2 fun a ha => h a ha
end
end Go.Sx
namespace Go.Sx
open Go.Proofs Go.Proofs.Tryz
abbrev XW := WS × Bool
def XW.up (x : XW) : XW := ({ x.1 with nest := x.1.nest - 1 }, x.2)
mutual
def CB (most long : Nat) : T → XW → XW
 | .int n, x => (x.1.num (GU n), x.2)
 | .bool b, x => (x.1.num b.toNat, x.2)
 | .str y, x => (x.1.str y, x.2)
 | .list l, x => BQ most long l (x.1.num l.length, x.2)
 | .nil, x => (x.1.num 0, x.2)
 | .ptr t, x => CB most long t (x.1.num 1, x.2)
 | .agg sn l, x =>
  match sn.deep with
  | true => if x.2 = true ∨ most < x.1.nest + 1 ∨ long < x.1.b.length then (x.1, true) else (BQ most long l ({ x.1 with nest := x.1.nest + 1 }, false)).up
  | false => BQ most long l x
def BQ (most long : Nat) : List T → XW → XW
 | [], x => x
 | t :: l, x => BQ most long l (CB most long t x)
end
mutual
theorem IK {most long : Nat} : ∀ (t : T) (x : XW), x.1.use + 11 * t.wt ≤ 2 ^ 40 → (CB most long t x).1.use ≤ x.1.use + 11 * t.wt ∧ (CB most long t x).1.nest = x.1.nest
 | .int n, x, hu => by
  simp only [CB, T.wt] at *
  have := Bq (s := x.1) (Eb n); exact ⟨by omega, rfl⟩
 | .bool b, x, hu => by
  simp only [CB, T.wt] at *
  have := Bq (s := x.1) (n := b.toNat) (by cases b <;> decide); exact ⟨by omega, rfl⟩
 | .str y, x, hu => by
  simp only [CB, T.wt] at *
  have := Ka (s := x.1) (x := y) (by omega)
  exact ⟨by omega, (LK _ _).2⟩
 | .nil, x, hu => by
  simp only [CB, T.wt] at *
  have := Bq (s := x.1) (n := 0) (by decide); exact ⟨by omega, rfl⟩
 | .ptr t, x, hu => by
  simp only [CB, T.wt] at *
  have h1 := Bq (s := x.1) (n := 1) (by decide)
  have := IK (most := most) (long := long) t (x.1.num 1, x.2) (by simp only; omega)
  simp only at this
  exact ⟨by omega, this.2⟩
 | .list l, x, hu => by
  simp only [CB, T.wt] at *
  have hl := BW l
  have h1 := Bq (s := x.1) (n := l.length) (by omega)
  have := Ef (most := most) (long := long) l (x.1.num l.length, x.2) (by simp only; omega)
  simp only at this
  exact ⟨by omega, this.2⟩
 | .agg sn l, x, hu => by
  simp only [CB, T.wt] at *
  cases hd : sn.deep with
  | false =>
   have := Ef (most := most) (long := long) l x (by omega)
   exact ⟨by simp only; omega, this.2⟩
  | true =>
   simp only
   split
   · exact ⟨by simp only; omega, rfl⟩
   · have := Ef (most := most) (long := long) l ({ x.1 with nest := x.1.nest + 1 }, false) (by simp only [WS.use] at *; omega)
     simp only [XW.up, WS.use] at *
     exact ⟨by omega, by omega⟩
theorem Ef {most long : Nat} : ∀ (l : List T) (x : XW), x.1.use + 11 * BA l ≤ 2 ^ 40 → (BQ most long l x).1.use ≤ x.1.use + 11 * BA l ∧ (BQ most long l x).1.nest = x.1.nest
 | [], x, hu => by refine ⟨?_, ?_⟩ <;> simp only [BQ] <;> omega
 | t :: l, x, hu => by
  simp only [BQ, BA] at *
  have a := IK (most := most) (long := long) t x (by omega)
  have b := Ef (most := most) (long := long) l (CB most long t x) (by omega)
  exact ⟨by omega, b.2.trans a.2⟩
end
mutual
theorem KN {most long : Nat} : ∀ (t : T) (s : WS), (CB most long t (s, true)).2 = true
 | .int n, s => by simp only [CB]
 | .bool b, s => by simp only [CB]
 | .str y, s => by simp only [CB]
 | .nil, s => by simp only [CB]
 | .ptr t, s => by simp only [CB]; exact KN t _
 | .list l, s => by simp only [CB]; exact GJ l _
 | .agg sn l, s => by
  simp only [CB]
  split
  · simp
  · exact GJ l s
theorem GJ {most long : Nat} : ∀ (l : List T) (s : WS), (BQ most long l (s, true)).2 = true
 | [], s => by simp only [BQ]
 | t :: l, s => by
  simp only [BQ]
  have h := KN (most := most) (long := long) t s
  rw [show CB most long t (s, true) = ((CB most long t (s, true)).1, true) from Prod.ext rfl h]
  exact GJ l _
end
mutual
theorem IF {most long : Nat} : ∀ (t : T) (s : WS), (∀ s', enc most long t s = some s' → CB most long t (s, false) = (s', false)) ∧ (enc most long t s = none → (CB most long t (s, false)).2 = true)
 | .int n, s => by simp [CB, enc]
 | .bool b, s => by simp [CB, enc]
 | .str y, s => by simp [CB, enc]
 | .nil, s => by simp [CB, enc]
 | .ptr t, s => by simp only [CB, enc]; exact IF t (s.num 1)
 | .list l, s => by simp only [CB, enc]; exact Hz l (s.num l.length)
 | .agg sn l, s => by
  simp only [CB, enc]
  cases hd : sn.deep with
  | false => exact Hz l s
  | true =>
   simp only [Bool.false_eq_true, false_or]
   split
   · simp
   · have ih := Hz (most := most) (long := long) l { s with nest := s.nest + 1 }
     constructor
     · intro s' h
       simp only [Option.map_eq_some_iff] at h
       obtain ⟨u, hu, rfl⟩ := h
       have hn := (Ec l _ _ hu).2
       rw [ih.1 u hu]
       simp only [XW.up, hn, Nat.add_sub_cancel]
     · intro h
       simp only [Option.map_eq_none_iff] at h
       exact ih.2 h
theorem Hz {most long : Nat} : ∀ (l : List T) (s : WS), (∀ s', BU most long l s = some s' → BQ most long l (s, false) = (s', false)) ∧ (BU most long l s = none → (BQ most long l (s, false)).2 = true)
 | [], s => by simp [BQ, BU]
 | t :: l, s => by
  simp only [BQ, BU]
  have a := IF (most := most) (long := long) t s
  cases h : enc most long t s with
  | none =>
   refine ⟨fun s' h' => by simp at h', fun _ => ?_⟩
   rw [show CB most long t (s, false) = ((CB most long t (s, false)).1, true) from Prod.ext rfl (a.2 h)]
   exact GJ l _
  | some u =>
   rw [a.1 u h]
   exact Hz l u
end
structure Qr (p most long : Nat) (x : XW) (O : Nat → Prop) (w : World) (vb vt : Value) : Prop where
 blk : Blk w p [vb, vt, .int .i64 x.1.nest, .bool x.2, .int .i64 most, .int .i64 long] 173
 rb : w.ownsRow 0 5 1 vb x.1.b.length (x.1.b.map bv)
 rt : w.ownsRow 0 9 1 vt x.1.tab.length (x.1.tab.map Value.string)
 op : O p
 ob : ∀ k, Bk vb k → O k ∧ k ≠ p ∧ ¬ Bk vt k
 ot : ∀ k, Bk vt k → O k ∧ k ≠ p
structure XSt (w0 : World) (S : Nat → Prop) (p most long : Nat) (x : XW) (O : Nat → Prop) (w : World) : Prop where
 inp : ∀ b, S b → b < w0.heap.size → ¬ O b ∧ w.heap[b]? = w0.heap[b]?
 lt : ∀ b, O b → b < w.heap.size
 base : w0.heap.size ≤ w.heap.size
 mem : ∃ vb vt, Qr p most long x O w vb vt
 tabs : ∀ y ∈ x.1.tab, y.size ≤ maxLen
section
variable {w0 : World} {S : Nat → Prop} {p most long : Nat} {x : XW} {O : Nat → Prop} {w : World}
theorem XSt.other (h : XSt w0 S p most long x O w) {U U' : Nat → Prop} {w' : World} (f : Fr U w U' w') (hu : ∀ b, U b → ¬ O b ∧ w0.heap.size ≤ b) : XSt w0 S p most long x O w' := by
 have hO : ∀ b, O b → w'.heap[b]? = w.heap[b]? := fun b hb => f.blk b (h.lt b hb) (fun hu' => (hu b hu').1 hb)
 refine ⟨fun b hb hl => ⟨(h.inp b hb hl).1, ?_⟩, fun b hb => Nat.lt_of_lt_of_le (h.lt b hb) f.size, Nat.le_trans h.base f.size, ?_, h.tabs⟩
 · rw [f.blk b (Nat.lt_of_lt_of_le hl h.base) (fun hu' => by have := (hu b hu').2; omega)]
   exact (h.inp b hb hl).2
 · obtain ⟨vb, vt, m⟩ := h.mem
   exact ⟨vb, vt, (hO p m.op).trans m.blk, AP m.rb (fun b hb => hO b (m.ob b hb).1), AP m.rt (fun b hb => hO b (m.ot b hb).1), m.op, m.ob, m.ot⟩
theorem XSt.drewN (h : XSt w0 S p most long x O w) (n : Nat) : XSt w0 S p most long x O (w.drewN n) :=
 ⟨h.inp, h.lt, h.base, by obtain ⟨vb, vt, m⟩ := h.mem; exact ⟨vb, vt, m.blk, m.rb, m.rt, m.op, m.ob, m.ot⟩, h.tabs⟩
theorem HH (cs : List Value) (i : Nat) (v : Value) (h : i < cs.length) : Ch cs i [v] = cs.set i v := by
 rw [List.set_eq_take_append_cons_drop, if_pos h]; simp [Ch]
theorem XSt.step (h : XSt w0 S p most long x O w) {vb vt vb' vt' : Value} {x' : XW} {w' : World} (m : Qr p most long x O w vb vt)
 (f : Fr (fun k => Bk vb k ∨ Bk vt k) w (fun k => Bk vb' k ∨ Bk vt' k) w')
 (rb : w'.ownsRow 0 5 1 vb' x'.1.b.length (x'.1.b.map bv)) (rt : w'.ownsRow 0 9 1 vt' x'.1.tab.length (x'.1.tab.map Value.string))
 (hne : ∀ k, Bk vb' k → ¬ Bk vt' k) (ht : ∀ y ∈ x'.1.tab, y.size ≤ maxLen) :
 ∃ O', Fr O w O' (w'.setRow p [vb', vt', .int .i64 x'.1.nest, .bool x'.2, .int .i64 most, .int .i64 long].toArray) ∧
  XSt w0 S p most long x' O' (w'.setRow p [vb', vt', .int .i64 x'.1.nest, .bool x'.2, .int .i64 most, .int .i64 long].toArray) := by
 have hp : p < w.heap.size := h.lt p m.op
 have hU : ∀ k, Bk vb k ∨ Bk vt k → O k ∧ k ≠ p := fun k hk => hk.elim (fun hb => ⟨(m.ob k hb).1, (m.ob k hb).2.1⟩) (fun hb => m.ot k hb)
 have hbp : w'.heap[p]? = w.heap[p]? := f.blk p hp (fun ho => (hU p ho).2 rfl)
 have hblk : Blk w' p [vb, vt, .int .i64 x.1.nest, .bool x.2, .int .i64 most, .int .i64 long] 173 := hbp.trans m.blk
 have hV : ∀ k, Bk vb' k ∨ Bk vt' k → k ≠ p := by
  intro k hk
  rcases f.own k hk with h1 | h1
  · exact (hU k h1).2
  · omega
 have f2 : Fr O w (grow O w w') w' := f.grow (fun b hb => (hU b hb).1)
 refine ⟨grow O w w', f2.trans (Fr.setRow _ (.inl m.op)), ?_, ?_, ?_, ⟨vb', vt', hblk.setRow _, ?_, ?_, .inl m.op, ?_, ?_⟩, ht⟩
 · intro b hb hl
   have hi := h.inp b hb hl
   have hbl : b < w.heap.size := Nat.lt_of_lt_of_le hl h.base
   refine ⟨fun ho => ho.elim hi.1 (fun hg => by omega), ?_⟩
   rw [setRow_other _ _ _ _ (fun e => hi.1 (by rw [e]; exact m.op)), f.blk b hbl (fun ho => hi.1 (hU b ho).1)]
   exact hi.2
 · intro b hb
   simp only [BB]
   exact hb.elim (fun ho => Nat.lt_of_lt_of_le (h.lt b ho) f.size) (fun hg => hg.2)
 · simp only [BB]
   exact Nat.le_trans h.base f.size
 · exact AP rb (fun b hb => setRow_other _ _ _ _ (hV b (.inl hb)))
 · exact AP rt (fun b hb => setRow_other _ _ _ _ (hV b (.inr hb)))
 · intro k hk
   refine ⟨?_, hV k (.inl hk), hne k hk⟩
   rcases f.own k (.inl hk) with h1 | h1
   · exact .inl (hU k h1).1
   · exact .inr ⟨h1, AT rb hk⟩
 · intro k hk
   refine ⟨?_, hV k (.inr hk)⟩
   rcases f.own k (.inr hk) with h1 | h1
   · exact .inl (hU k h1).1
   · exact .inr ⟨h1, AT rt hk⟩
theorem XSt.put (h : XSt w0 S p most long x O w) : ∃ vb, w.cell? ⟨p, 0, none⟩ = some vb ∧ w.ownsRow 0 5 1 vb x.1.b.length (x.1.b.map bv) ∧ (∀ k, Bk vb k → O k) ∧ O p ∧
 ∀ vb' w' bs, Fr (Bk vb) w (Bk vb') w' → w'.ownsRow 0 5 1 vb' bs.length (bs.map bv) →
  ∃ w'' O', (storeVar 22 ⟨p, 0, none⟩ vb').run prog w' = .ok () w'' ∧ Fr O w O' w'' ∧ XSt w0 S p most long ({ x.1 with b := bs }, x.2) O' w'' := by
 obtain ⟨vb, vt, m⟩ := h.mem
 refine ⟨vb, by rw [m.blk.cell]; rfl, m.rb, fun k hk => (m.ob k hk).1, m.op, ?_⟩
 intro vb' w' bs f r
 have hvt : ∀ b, Bk vt b → w'.heap[b]? = w.heap[b]? := fun b hb => f.blk b (AT m.rt hb) (fun ho => (m.ob b ho).2.2 hb)
 have hne : ∀ k, Bk vb' k → ¬ Bk vt k := by
  intro k hk ht
  rcases f.own k hk with h1 | h1
  · exact (m.ob k h1).2.2 ht
  · have := AT m.rt ht; omega
 have hbp : w'.heap[p]? = w.heap[p]? := f.blk p (h.lt p m.op) (fun ho => (m.ob p ho).2.1 rfl)
 have hblk : Blk w' p [vb, vt, .int .i64 x.1.nest, .bool x.2, .int .i64 most, .int .i64 long] 173 := hbp.trans m.blk
 have hst := BR (P := prog) (w := w') (t := 22) (n := 1) (agg := false) (b := p) (o := 0) (v := vb') CG (DI r).1 rfl (by simpa using (DI r).2) hblk (by simp)
 rw [HH _ _ _ (by simp)] at hst
 have f' : Fr (fun k => Bk vb k ∨ Bk vt k) w (fun k => Bk vb' k ∨ Bk vt k) w' :=
  ⟨f.os, f.tape, f.output, f.size, fun b hb hn => f.blk b hb (fun ho => hn (.inl ho)), fun b hb => hb.elim (fun h1 => (f.own b h1).elim (fun h2 => .inl (.inl h2)) .inr) (fun h1 => .inl (.inr h1))⟩
 obtain ⟨O', g1, g2⟩ := h.step (x' := ({ x.1 with b := bs }, x.2)) m f' r (AP m.rt hvt) hne h.tabs
 exact ⟨_, O', hst, g1, g2⟩
theorem XSt.putTab (h : XSt w0 S p most long x O w) : ∃ vt, w.cell? ⟨p, 1, none⟩ = some vt ∧ w.ownsRow 0 9 1 vt x.1.tab.length (x.1.tab.map Value.string) ∧ (∀ k, Bk vt k → O k) ∧ O p ∧
 ∀ vt' w' tab, Fr (Bk vt) w (Bk vt') w' → w'.ownsRow 0 9 1 vt' tab.length (tab.map Value.string) → (∀ y ∈ tab, y.size ≤ maxLen) →
  ∃ w'' O', (storeVar 44 ⟨p, 1, none⟩ vt').run prog w' = .ok () w'' ∧ Fr O w O' w'' ∧ XSt w0 S p most long ({ x.1 with tab := tab }, x.2) O' w'' := by
 obtain ⟨vb, vt, m⟩ := h.mem
 refine ⟨vt, by rw [m.blk.cell]; rfl, m.rt, fun k hk => (m.ot k hk).1, m.op, ?_⟩
 intro vt' w' tab f r ht
 have hvb : ∀ b, Bk vb b → w'.heap[b]? = w.heap[b]? := fun b hb => f.blk b (AT m.rb hb) (fun ho => (m.ob b hb).2.2 ho)
 have hne : ∀ k, Bk vb k → ¬ Bk vt' k := by
  intro k hk hv
  rcases f.own k hv with h1 | h1
  · exact (m.ob k hk).2.2 h1
  · have := AT m.rb hk; omega
 have hbp : w'.heap[p]? = w.heap[p]? := f.blk p (h.lt p m.op) (fun ho => (m.ot p ho).2 rfl)
 have hblk : Blk w' p [vb, vt, .int .i64 x.1.nest, .bool x.2, .int .i64 most, .int .i64 long] 173 := hbp.trans m.blk
 have hst := BR (P := prog) (w := w') (t := 44) (n := 1) (agg := false) (b := p) (o := 1) (v := vt') D_ (DI r).1 rfl (by simpa using (DI r).2) hblk (by simp)
 rw [HH _ _ _ (by simp)] at hst
 have f' : Fr (fun k => Bk vb k ∨ Bk vt k) w (fun k => Bk vb k ∨ Bk vt' k) w' :=
  ⟨f.os, f.tape, f.output, f.size, fun b hb hn => f.blk b hb (fun ho => hn (.inr ho)), fun b hb => hb.elim (fun h1 => .inl (.inl h1)) (fun h1 => (f.own b h1).elim (fun h2 => .inl (.inr h2)) .inr)⟩
 obtain ⟨O', g1, g2⟩ := h.step (x' := ({ x.1 with tab := tab }, x.2)) m f' (AP m.rb hvb) r hne ht
 exact ⟨_, O', hst, g1, g2⟩
theorem XSt.flags (h : XSt w0 S p most long x O w) : O p ∧ w.cell? ⟨p, 2, none⟩ = some (.int .i64 x.1.nest) ∧ w.cell? ⟨p, 3, none⟩ = some (.bool x.2) ∧ w.cell? ⟨p, 4, none⟩ = some (.int .i64 most) ∧ w.cell? ⟨p, 5, none⟩ = some (.int .i64 long) ∧
 (∀ n : Nat, ∃ w' O', (storeVar 3 ⟨p, 2, none⟩ (.int .i64 n)).run prog w = .ok () w' ∧ Fr O w O' w' ∧ XSt w0 S p most long ({ x.1 with nest := n }, x.2) O' w') ∧
 (∀ d : Bool, ∃ w' O', (storeVar 4 ⟨p, 3, none⟩ (.bool d)).run prog w = .ok () w' ∧ Fr O w O' w' ∧ XSt w0 S p most long (x.1, d) O' w') := by
 obtain ⟨vb, vt, m⟩ := h.mem
 have hne : ∀ k, Bk vb k → ¬ Bk vt k := fun k hk => (m.ob k hk).2.2
 have f' : Fr (fun k => Bk vb k ∨ Bk vt k) w (fun k => Bk vb k ∨ Bk vt k) w := Fr.refl _ _
 refine ⟨m.op, by rw [m.blk.cell]; rfl, by rw [m.blk.cell]; rfl, by rw [m.blk.cell]; rfl, by rw [m.blk.cell]; rfl, fun n => ?_, fun d => ?_⟩
 · have hst := BR (P := prog) (w := w) (t := 3) (n := 1) (agg := false) (b := p) (o := 2) (v := .int .i64 n) (vs := [.int .i64 n]) Hm rfl rfl (by simp [Value.oneCell']) m.blk (by simp)
   rw [HH _ _ _ (by simp)] at hst
   obtain ⟨O', g1, g2⟩ := h.step (x' := ({ x.1 with nest := n }, x.2)) m f' m.rb m.rt hne h.tabs
   exact ⟨_, O', hst, g1, g2⟩
 · have hst := BR (P := prog) (w := w) (t := 4) (n := 1) (agg := false) (b := p) (o := 3) (v := .bool d) (vs := [.bool d]) Ee rfl rfl (by simp [Value.oneCell']) m.blk (by simp)
   rw [HH _ _ _ (by simp)] at hst
   obtain ⟨O', g1, g2⟩ := h.step (x' := (x.1, d)) m f' m.rb m.rt hne h.tabs
   exact ⟨_, O', hst, g1, g2⟩
end
end Go.Sx
namespace Go.Sx
open Go.Proofs Go.Proofs.Tryz
section
variable {w : World} {t : TypeId}
theorem IW {n d : Nat} (hd : 0 < d) : (binOp .rem t (.int .u64 (n : Int)) (.int .u64 (d : Int))).run prog w = .ok (.int .u64 ((n % d : Nat) : Int)) w := by
 show (Op.intDiv .rem .u64 n d).run prog w = _
 have h : ¬ ((d : Int) = 0) := by omega
 simp only [Op.intDiv, h, if_false]
 rw [show (n : Int).tmod (d : Int) = ((n % d : Nat) : Int) from rfl]; rfl
theorem Ja {n d : Nat} (hd : 0 < d) (hn : n < 18446744073709551616) : (binOp .quo t (.int .u64 (n : Int)) (.int .u64 (d : Int))).run prog w = .ok (.int .u64 ((n / d : Nat) : Int)) w := by
 show (Op.intDiv .quo .u64 n d).run prog w = _
 have h : ¬ ((d : Int) = 0) := by omega
 simp only [Op.intDiv, h, if_false]
 rw [show (n : Int).tdiv (d : Int) = ((n / d : Nat) : Int) from rfl, Bz (Int.natCast_nonneg _) (Int.ofNat_lt.2 (Nat.lt_of_le_of_lt (Nat.div_le_self n d) hn))]; rfl
theorem KM {a b : Int} (h0 : 0 ≤ a + b) (h : a + b < 18446744073709551616) : (binOp .add t (.int .u64 a) (.int .u64 b)).run prog w = .ok (.int .u64 (a + b)) w := by
 show Result.ok (Value.int .u64 (IntKind.u64.wrap (a + b))) w = _
 rw [Bz h0 h]
theorem KA {a b : Int} (h0 : 0 ≤ a * b) (h : a * b < 18446744073709551616) : (binOp .mul t (.int .u64 a) (.int .u64 b)).run prog w = .ok (.int .u64 (a * b)) w := by
 show Result.ok (Value.int .u64 (IntKind.u64.wrap (a * b))) w = _
 rw [Bz h0 h]
theorem JU {a b : Int} (h : Bu (a + b)) : (binOp .add t (.int .i64 a) (.int .i64 b)).run prog w = .ok (.int .i64 (a + b)) w := by
 show Result.ok (Value.int .i64 (IntKind.i64.wrap (a + b))) w = _
 rw [B4 h]
theorem EH {a b : Int} (h : Bu (a - b)) : (binOp .sub t (.int .i64 a) (.int .i64 b)).run prog w = .ok (.int .i64 (a - b)) w := by
 show Result.ok (Value.int .i64 (IntKind.i64.wrap (a - b))) w = _
 rw [B4 h]
theorem LS {a : Int} (h : Bu (-a)) : (Op.unary .neg (.int .i64 a)).run prog w = .ok (.int .i64 (-a)) w := by
 have : (Op.unary .neg (.int .i64 a)).run prog w = .ok (.int .i64 (IntKind.i64.wrap (0 - a))) w := rfl
 rw [this, show (0 - a) = -a by omega, B4 h]
theorem ER {n : Int} (h0 : 0 ≤ n) (h : n < 18446744073709551616) : (convert 3 164 (.int .i64 n)).run prog w = .ok (.int .u64 n) w := by
 have := Bv (P := prog) (w := w) (s := 3) (t := 164) (k' := .i64) (n := n) runUnderlying3 runUnderlying164
 rwa [Bz h0 h] at this
end
theorem Md {w : World} {b : UInt8} : (w.alloc (.cells [bv b].toArray 5)).ownsRow 0 5 1 (.slice (some ⟨w.heap.size, 0, none⟩) 1 1) 1 [bv b] :=
 ⟨rfl, .inr ⟨w.heap.size, 1, [bv b].toArray, rfl, Nat.zero_le _, heap_alloc_new w _, Nat.le_refl _, by simp [maxLen], rfl, rfl⟩⟩
theorem Mv {s l c b : Nat} (h : Bk (.slice (some ⟨s, 0, none⟩) l c) b) : s = b := by simpa [Bk, Value.ownBlock] using h
theorem Pg : ∀ (N n : Nat) {w : World}, n ≤ N → n < 18446744073709551616 → Calls prog 89 [.int .u64 (n : Int)].toArray w (Dq (fun v w' => w'.ownsRow 0 5 1 v (num n).length ((num n).map bv) ∧ Fr (fun _ => False) w (Bk v) w') (fun _ _ => False)) := by
 intro N
 induction N using Nat.strongRecOn with
 | _ N ih =>
  intro n w hN hn
  refine AB 17 func89 V V V ?_
  refine Af (Aa (Ah V V (Ae ?_)))
  refine Af (Af (Aa (Ac V V (Al V V (Bh (c := decide (n < 128)) (decide_eq_decide.2 (by omega))) V (Ae (AK V (fun ht => ?_) (fun hf => A_ fun a ha => Ad ?_)))))))
  · have hlt : n < 128 := of_decide_eq_true ht
    refine Af (Aa (Ac V V (AJ V GM V ?_)))
    rw [show ((n : Int) % 256) = (n : Int) by omega, ← Fo n (by omega)]
    refine A7 V (Hb V) V (Ah V V (Ae (AA fun a ha => Ao (Au V ha V ⟨?_, ?_⟩))))
    · rw [DO hlt]; exact Md
    · exact ⟨rfl, rfl, rfl, by simp, fun b hb _ => heap_alloc_old w _ b hb, fun b hb => .inr (Nat.le_of_eq (Mv hb))⟩
  · have hge : 128 ≤ n := by have := of_decide_eq_false hf; omega
    refine A8 ha (Af (Aa (Ac V V (Al V V (IW (d := 128) (by decide)) V (Al V V (KM (by omega) (by omega)) V (AJ V GM V ?_))))))
    rw [show (((n % 128 : Nat) : Int) + 128) % 256 = ((n % 128 + 128 : Nat) : Int) by omega, ← Fo (n % 128 + 128) (by omega)]
    refine A7 V (Hb V) V (Ac V V (Al V V (Ja (d := 128) (by decide) hn) V ?_))
    have r1 : (w.alloc (.cells [bv (n % 128 + 128).toUInt8].toArray 5)).ownsRow 0 5 1 (.slice (some ⟨w.heap.size, 0, none⟩) 1 1) 1 [bv (n % 128 + 128).toUInt8] := Md
    have f1 : Fr (fun _ => False) w (Bk (.slice (some ⟨w.heap.size, 0, none⟩) 1 1)) (w.alloc (.cells [bv (n % 128 + 128).toUInt8].toArray 5)) :=
     ⟨rfl, rfl, rfl, by simp, fun b hb _ => heap_alloc_old w _ b hb, fun b hb => .inr (Nat.le_of_eq (Mv hb))⟩
    generalize w.alloc (.cells [bv (n % 128 + 128).toUInt8].toArray 5) = w1 at r1 f1 ⊢
    refine Aj call89 V V (ih (n / 128) (by omega) (n / 128) (Nat.le_refl _) (by omega)) ?_ Be
    rintro v2 w2 ⟨r2, f2⟩
    have r1' : w2.ownsRow 0 5 1 (.slice (some ⟨w.heap.size, 0, none⟩) 1 1) [(n % 128 + 128).toUInt8].length ([(n % 128 + 128).toUInt8].map bv) := AP r1 (fun b hb => f2.blk b (AT r1 hb) (fun h => h))
    have hl := B_ (n := n / 128) (by omega)
    obtain ⟨v3, w3, hr3, r3, f3⟩ := BC (ty := 22) r1' (BH r2).src (by simp only [List.length_cons, List.length_nil]; omega)
    refine AU V V hr3 V (Ah V V (Ae (AA fun a ha => Au V ha V ⟨?_, ?_⟩)))
    · rw [Hq hge]; exact r3
    · have f12 : Fr (fun _ => False) w (Bk (.slice (some ⟨w.heap.size, 0, none⟩) 1 1)) w2 := f1.trans (f2.drop (fun _ h => h.elim))
      exact f12.trans f3
def MU (f : FuncId) (v : Value) (g : Nat → Nat → XW → XW) (k : Nat) : Prop :=
 ∀ {w0 : World} {S : Nat → Prop} {p most long : Nat} {x : XW} {O : Nat → Prop} {w : World}, XSt w0 S p most long x O w → x.1.use + 11 * k ≤ 2 ^ 40 →
  Calls prog f [ptr p, v].toArray w (Dq (fun r w' => r = .tuple #[] ∧ ∃ O', Fr O w O' w' ∧ XSt w0 S p most long (g most long x) O' w') (fun _ _ => False))
theorem XSt.use_lens {w0 : World} {S : Nat → Prop} {p most long : Nat} {x : XW} {O : Nat → Prop} {w : World} (_ : XSt w0 S p most long x O w) {k : Nat} (hu : x.1.use + 11 * k ≤ 2 ^ 40) (hk : 1 ≤ k) :
 x.1.b.length + 11 ≤ 2 ^ 40 ∧ x.1.tab.length + 11 ≤ 2 ^ 40 ∧ x.1.nest + 11 ≤ 2 ^ 40 := by
 simp only [WS.use] at hu; omega
theorem CM : AF prog 173 0 0 := fun w b o => by
 simp [Instr.fieldAt, runUnderlying173, Instr.sureAddr, fieldPlace, sizeOf22, Addr.add_lit]
theorem Dl : AF prog 173 1 1 := fun w b o => by
 simp [Instr.fieldAt, runUnderlying173, Instr.sureAddr, fieldPlace, sizeOf44, Addr.add_lit]
theorem Cw : AF prog 173 2 2 := fun w b o => by
 simp [Instr.fieldAt, runUnderlying173, Instr.sureAddr, fieldPlace, sizeOf3, Addr.add_lit]
theorem Dx : AF prog 173 3 3 := fun w b o => by
 simp [Instr.fieldAt, runUnderlying173, Instr.sureAddr, fieldPlace, sizeOf4, Addr.add_lit]
theorem My : AF prog 173 4 4 := fun w b o => by
 simp [Instr.fieldAt, runUnderlying173, Instr.sureAddr, fieldPlace, sizeOf3, Addr.add_lit]
theorem MJ : AF prog 173 5 5 := fun w b o => by
 simp [Instr.fieldAt, runUnderlying173, Instr.sureAddr, fieldPlace, sizeOf3, Addr.add_lit]
section
variable {P : Program} {ops : Array Oper} {Q : Exit → Act → World → Prop} {n : Nat} {ds : List Deferred} {m : Env} {w : World} {fuel : Nat} {listed : Array Bool} {i d : Nat} {ty : TypeId} {pos : String} {aft : Array Edge}
theorem C7 {x : Operand} {v : Value} (hi : ops[i]? = some ⟨some d, .move x, ty, pos, aft, none⟩) (hok : OL ops listed i = true)
 (hQ : Blind Q) (hx : ev m x = some v) (hb : Nat.blt d n = true) (h : AL P ops Q fuel (listed.setIfInBounds i true) n ds ((d, v) :: m) w) : AL P ops Q (fuel + 1) listed n ds m w :=
 G5 hi hok hQ rfl rfl hb (fun a w ha => by simp [execOp, ha.eval hx]) h
theorem DK {x : Operand} {q : Addr} (hi : ops[i]? = some ⟨some d, .nilCheck x, ty, pos, aft, none⟩) (hok : OL ops listed i = true)
 (hQ : Blind Q) (hx : ev m x = some (.pointer (some q))) (hb : Nat.blt d n = true) (h : AL P ops Q fuel (listed.setIfInBounds i true) n ds ((d, .pointer (some q)) :: m) w) : AL P ops Q (fuel + 1) listed n ds m w :=
 G5 hi hok hQ rfl rfl hb (fun a w ha => by simp [execOp, ha.eval hx]) h
theorem Ct {s k : Nat} {x : Operand} {q r : Addr} (hi : ops[i]? = some ⟨some d, .fieldAddr s x k, ty, pos, aft, none⟩) (hok : OL ops listed i = true)
 (hQ : Blind Q) (hx : ev m x = some (.pointer (some q))) (hfa : ∀ w, (Instr.fieldAt s (.pointer (some q)) k).run P w = .ok (.pointer (some r)) w) (hb : Nat.blt d n = true)
 (h : AL P ops Q fuel (listed.setIfInBounds i true) n ds ((d, .pointer (some r)) :: m) w) : AL P ops Q (fuel + 1) listed n ds m w :=
 G5 hi hok hQ rfl rfl hb (fun a w ha => by simp [execOp, ha.eval hx, hfa w]) h
theorem Iv {s t : Nat} {x : Operand} {vx v : Value} (hi : ops[i]? = some ⟨some d, .convert s t x, ty, pos, aft, none⟩) (hok : OL ops listed i = true)
 (hQ : Blind Q) (hx : ev m x = some vx) (hc : ∀ w, (Go.convert s t vx).run P w = .ok v w) (hb : Nat.blt d n = true)
 (h : AL P ops Q fuel (listed.setIfInBounds i true) n ds ((d, v) :: m) w) : AL P ops Q (fuel + 1) listed n ds m w :=
 G5 hi hok hQ rfl rfl hb (fun a w ha => by simp [execOp, ha.eval hx, hc w]) h
theorem D6 {op : BinOp} {t u : Nat} {x y : Operand} {k k' : IntKind} {a b : Int} {v : Value} (hi : ops[i]? = some ⟨some d, .binOp op t x y u, ty, pos, aft, none⟩) (hok : OL ops listed i = true)
 (hQ : Blind Q) (hx : ev m x = some (.int k a)) (hy : ev m y = some (.int k' b)) (hc : ∀ w, (Go.binOp op t (.int k a) (.int k' b)).run P w = .ok v w) (hb : Nat.blt d n = true)
 (h : AL P ops Q fuel (listed.setIfInBounds i true) n ds ((d, v) :: m) w) : AL P ops Q (fuel + 1) listed n ds m w :=
 G5 hi hok hQ rfl rfl hb (fun a' w ha => by
  have he : eqGuard op t x y (.int k a) (.int k' b) = pure () := by unfold eqGuard; cases op <;> rfl
  simp [execOp, ha.eval hx, ha.eval hy, he, hc w]) h
theorem OG {op : UnOp} {t : Nat} {x : Operand} {vx v : Value} (hi : ops[i]? = some ⟨some d, .unOp op t x, ty, pos, aft, none⟩) (hok : OL ops listed i = true)
 (hQ : Blind Q) (hx : ev m x = some vx) (hc : ∀ w, (Op.unary op vx).run P w = .ok v w) (hb : Nat.blt d n = true)
 (h : AL P ops Q fuel (listed.setIfInBounds i true) n ds ((d, v) :: m) w) : AL P ops Q (fuel + 1) listed n ds m w :=
 G5 hi hok hQ rfl rfl hb (fun a w ha => by simp [execOp, ha.eval hx, hc w]) h
theorem Lw (l : Env) (hs : Sub l m) (h : AL P ops Q fuel listed n ds l w) : AL P ops Q fuel listed n ds m w := fun a ha => h a (ha.weak hs)
end
theorem NL {n : Nat} (hn : n < 9223372036854775808) : MU 137 (.int .i64 (n : Int)) (fun _ _ x => (x.1.num n, x.2)) 1 := by
 intro w0 S p most long x O w hx hu
 have hl := hx.use_lens hu (Nat.le_refl 1)
 refine AB 15 func137 V V V ?_
 refine Hi CE ?_
 have hx1 := hx.drewN 1
 have f0 : Fr O w O (w.drewN 1) := Fr.drewn 1
 generalize w.drewN 1 = w1 at hx1 f0 ⊢
 obtain ⟨vb, hc, r, hob, hop, put⟩ := hx1.put
 have hpl := hx1.lt p hop
 have hQ : Blind (bodyPost prog Tryz.f137 (Dq (fun r w' => r = .tuple #[] ∧ ∃ O', Fr O w O' w' ∧ XSt w0 S p most long (x.1.num n, x.2) O' w') (fun _ _ => False))) := Bo
 refine C7 (i := 0) V (by decide +kernel) hQ V V (C7 (i := 1) V (by decide +kernel) hQ V V (DK (i := 2) V (by decide +kernel) hQ V V (Ct (i := 3) V (by decide +kernel) hQ V (fun w => CM w _ _) V ?_)))
 refine C7 (i := 5) V (by decide +kernel) hQ V V (Iv (i := 6) V (by decide +kernel) hQ V (fun w => ER (by omega) (by omega)) V ?_)
 have hnl := B_ (n := n) (by omega)
 refine DN (i := 4) (j := 7) (by decide +kernel) V V ?_ ?_
 · refine Ai V (A4 CG hc) V (Ba (AX (i := 7) (by decide +kernel) V (Aj call89 V V (Pg n n (Nat.le_refl _) (by omega)) ?_ Be)))
   rintro v2 w2 ⟨r2, f2⟩
   have r' := AP r (fun b hb => f2.blk b (AT r hb) (fun h => h))
   obtain ⟨v3, w3, hr3, r3, f3⟩ := BC (ty := 22) r' (BH r2).src (by omega)
   obtain ⟨w4, O4, hst, f4, hx4⟩ := put v3 w3 _ ((f2.none.drop (fun _ h => h.elim)).trans f3) r3
   exact Ba (AX (i := 8) (by decide +kernel) V (AU V V hr3 V (Ba (AX (i := 9) (by decide +kernel) V (As V V (Ba (AX (i := 10) (by decide +kernel) V (Ab V (CM _ _ _) V (Ba (AX (i := 11) (by decide +kernel) V (An V V hst (Ba (Cv (by decide +kernel) (fun a ha => AV V ha ⟨rfl, O4, f0.trans f4, hx4⟩))))))))))))))
 · refine Aj call89 V V (Pg n n (Nat.le_refl _) (by omega)) ?_ Be
   rintro v2 w2 ⟨r2, f2⟩
   have r' := AP r (fun b hb => f2.blk b (AT r hb) (fun h => h))
   have hc' : w2.cell? ⟨p, 0, none⟩ = some vb := by rw [World.cell?_of_block (w := w1) (f2.blk p hpl (fun h => h))]; exact hc
   obtain ⟨v3, w3, hr3, r3, f3⟩ := BC (ty := 22) r' (BH r2).src (by omega)
   obtain ⟨w4, O4, hst, f4, hx4⟩ := put v3 w3 _ ((f2.none.drop (fun _ h => h.elim)).trans f3) r3
   exact Ba (AX (i := 4) (by decide +kernel) V (Ai V (A4 CG hc') V (Ba (AX (i := 8) (by decide +kernel) V (AU V V hr3 V (Ba (AX (i := 9) (by decide +kernel) V (As V V (Ba (AX (i := 10) (by decide +kernel) V (Ab V (CM _ _ _) V (Ba (AX (i := 11) (by decide +kernel) V (An V V hst (Ba (Cv (by decide +kernel) (fun a ha => AV V ha ⟨rfl, O4, f0.trans f4, hx4⟩)))))))))))))))))
end Go.Sx
namespace Go.Sx
open Go.Proofs Go.Proofs.Tryz
theorem Nl {fn : Func} {R : Ending → World → Prop} {n : Nat} {m : Env} {a : Act} {w : World} {P : Program} (hres : fn.results = #[]) (ha : Loc n [] m a) (h : R (.returned (.tuple #[])) w) : bodyPost P fn R .ret a w :=
 bodyPost_ret (results_none hres _ _ _) ha.defers h
theorem Rd {n : Int} (hn : Bu n) : MU 139 (.int .i64 n) (fun _ _ x => (x.1.num (GU n), x.2)) 1 := by
 intro w0 S p most long x O w hx hu
 have hl := hx.use_lens hu (Nat.le_refl 1)
 have hi := hn
 unfold Bu at hi
 have hnl := B_ (Eb n)
 refine AB 33 func139 V V V ?_
 refine Af (Aa (Ac V V (Al V V (JJ (c := decide (0 ≤ n)) V) V (Ae ?_))))
 have hx1 := hx.drewN 1
 have f0 : Fr O w O (w.drewN 1) := Fr.drewn 1
 have hQ : Blind (bodyPost prog Tryz.f139 (Dq (fun r w' => r = .tuple #[] ∧ ∃ O', Fr O w O' w' ∧ XSt w0 S p most long (x.1.num (GU n), x.2) O' w') (fun _ _ => False))) := Bo
 refine AK V (fun ht => Hi CE ?_) (fun hf => Hi CE ?_)
 · have h0 : 0 ≤ n := of_decide_eq_true ht
   generalize w.drewN 1 = w1 at hx1 f0 ⊢
   obtain ⟨vb, hc, r, hob, hop, put⟩ := hx1.put
   have hpl := hx1.lt p hop
   have hz : 2 * n = ((GU n : Nat) : Int) := by unfold GU; rw [if_pos h0]; omega
   refine C7 (i := 0) V (by decide +kernel) hQ V V (C7 (i := 1) V (by decide +kernel) hQ V V (DK (i := 2) V (by decide +kernel) hQ V V (Ct (i := 3) V (by decide +kernel) hQ V (fun w => CM w _ _) V ?_)))
   refine C7 (i := 5) V (by decide +kernel) hQ V V (Iv (i := 6) V (by decide +kernel) hQ V (fun w => ER h0 (by omega)) V (D6 (i := 7) V (by decide +kernel) hQ V V (fun w => KA (by omega) (by omega)) V ?_))
   rw [hz]
   refine DN (i := 4) (j := 8) (by decide +kernel) V V ?_ ?_
   · refine Ai V (A4 CG hc) V (Ba (AX (i := 8) (by decide +kernel) V (Aj call89 V V (Pg _ _ (Nat.le_refl _) (Eb n)) ?_ Be)))
     rintro v2 w2 ⟨r2, f2⟩
     have r' := AP r (fun b hb => f2.blk b (AT r hb) (fun h => h))
     obtain ⟨v3, w3, hr3, r3, f3⟩ := BC (ty := 22) r' (BH r2).src (by omega)
     obtain ⟨w4, O4, hst, f4, hx4⟩ := put v3 w3 _ ((f2.none.drop (fun _ h => h.elim)).trans f3) r3
     exact Ba (AX (i := 9) (by decide +kernel) V (AU V V hr3 V (Ba (AX (i := 10) (by decide +kernel) V (As V V (Ba (AX (i := 11) (by decide +kernel) V (Ab V (CM _ _ _) V (Ba (AX (i := 12) (by decide +kernel) V (An V V hst (Ba (Cv (by decide +kernel) (fun a ha => AV V ha ⟨rfl, O4, f0.trans f4, hx4⟩))))))))))))))
   · refine Aj call89 V V (Pg _ _ (Nat.le_refl _) (Eb n)) ?_ Be
     rintro v2 w2 ⟨r2, f2⟩
     have r' := AP r (fun b hb => f2.blk b (AT r hb) (fun h => h))
     have hc' : w2.cell? ⟨p, 0, none⟩ = some vb := by rw [World.cell?_of_block (w := w1) (f2.blk p hpl (fun h => h))]; exact hc
     obtain ⟨v3, w3, hr3, r3, f3⟩ := BC (ty := 22) r' (BH r2).src (by omega)
     obtain ⟨w4, O4, hst, f4, hx4⟩ := put v3 w3 _ ((f2.none.drop (fun _ h => h.elim)).trans f3) r3
     exact Ba (AX (i := 4) (by decide +kernel) V (Ai V (A4 CG hc') V (Ba (AX (i := 9) (by decide +kernel) V (AU V V hr3 V (Ba (AX (i := 10) (by decide +kernel) V (As V V (Ba (AX (i := 11) (by decide +kernel) V (Ab V (CM _ _ _) V (Ba (AX (i := 12) (by decide +kernel) V (An V V hst (Ba (Cv (by decide +kernel) (fun a ha => AV V ha ⟨rfl, O4, f0.trans f4, hx4⟩)))))))))))))))))
 · have h0 : ¬ 0 ≤ n := of_decide_eq_false hf
   generalize w.drewN 1 = w1 at hx1 f0 ⊢
   obtain ⟨vb, hc, r, hob, hop, put⟩ := hx1.put
   have hpl := hx1.lt p hop
   have hz : 2 * -(n + 1) + 1 = ((GU n : Nat) : Int) := by unfold GU; rw [if_neg h0]; omega
   refine C7 (i := 0) V (by decide +kernel) hQ V V (C7 (i := 1) V (by decide +kernel) hQ V V (DK (i := 2) V (by decide +kernel) hQ V V (Ct (i := 3) V (by decide +kernel) hQ V (fun w => CM w _ _) V ?_)))
   refine C7 (i := 5) V (by decide +kernel) hQ V V (D6 (i := 6) V (by decide +kernel) hQ V V (fun w => JU (by unfold Bu; omega)) V (OG (i := 7) V (by decide +kernel) hQ V (fun w => LS (by unfold Bu; omega)) V ?_))
   refine Iv (i := 8) V (by decide +kernel) hQ V (fun w => ER (by omega) (by omega)) V (D6 (i := 9) V (by decide +kernel) hQ V V (fun w => KA (by omega) (by omega)) V (D6 (i := 10) V (by decide +kernel) hQ V V (fun w => KM (by omega) (by omega)) V ?_))
   rw [hz]
   refine DN (i := 4) (j := 11) (by decide +kernel) V V ?_ ?_
   · refine Ai V (A4 CG hc) V (Ba (AX (i := 11) (by decide +kernel) V (Aj call89 V V (Pg _ _ (Nat.le_refl _) (Eb n)) ?_ Be)))
     rintro v2 w2 ⟨r2, f2⟩
     have r' := AP r (fun b hb => f2.blk b (AT r hb) (fun h => h))
     obtain ⟨v3, w3, hr3, r3, f3⟩ := BC (ty := 22) r' (BH r2).src (by omega)
     obtain ⟨w4, O4, hst, f4, hx4⟩ := put v3 w3 _ ((f2.none.drop (fun _ h => h.elim)).trans f3) r3
     exact Ba (AX (i := 12) (by decide +kernel) V (AU V V hr3 V (Ba (AX (i := 13) (by decide +kernel) V (As V V (Ba (AX (i := 14) (by decide +kernel) V (Ab V (CM _ _ _) V (Ba (AX (i := 15) (by decide +kernel) V (An V V hst (Ba (Cv (by decide +kernel) (fun a ha => AV V ha ⟨rfl, O4, f0.trans f4, hx4⟩))))))))))))))
   · refine Aj call89 V V (Pg _ _ (Nat.le_refl _) (Eb n)) ?_ Be
     rintro v2 w2 ⟨r2, f2⟩
     have r' := AP r (fun b hb => f2.blk b (AT r hb) (fun h => h))
     have hc' : w2.cell? ⟨p, 0, none⟩ = some vb := by rw [World.cell?_of_block (w := w1) (f2.blk p hpl (fun h => h))]; exact hc
     obtain ⟨v3, w3, hr3, r3, f3⟩ := BC (ty := 22) r' (BH r2).src (by omega)
     obtain ⟨w4, O4, hst, f4, hx4⟩ := put v3 w3 _ ((f2.none.drop (fun _ h => h.elim)).trans f3) r3
     exact Ba (AX (i := 4) (by decide +kernel) V (Ai V (A4 CG hc') V (Ba (AX (i := 12) (by decide +kernel) V (AU V V hr3 V (Ba (AX (i := 13) (by decide +kernel) V (As V V (Ba (AX (i := 14) (by decide +kernel) V (Ab V (CM _ _ _) V (Ba (AX (i := 15) (by decide +kernel) V (An V V hst (Ba (Cv (by decide +kernel) (fun a ha => AV V ha ⟨rfl, O4, f0.trans f4, hx4⟩)))))))))))))))))
theorem ON {b : Bool} : MU 138 (.bool b) (fun _ _ x => (x.1.num b.toNat, x.2)) 1 := by
 intro w0 S p most long x O w hx hu
 refine AB 9 func138 V V V ?_
 refine Af (Aa (Ac V V (Ae ?_)))
 refine AK V (fun ht => ?_) (fun hf => ?_)
 · subst ht
   refine Aa (Ac V V (Aj call137 V V (NL (n := 1) (by omega) hx hu) ?_ Be))
   rintro _ w1 ⟨rfl, O1, f1, hx1⟩
   exact A2 fun a ha => AV V ha ⟨rfl, O1, f1, hx1⟩
 · subst hf
   refine Aa (Ac V V (Aj call137 V V (NL (n := 0) (by omega) hx hu) ?_ Be))
   rintro _ w1 ⟨rfl, O1, f1, hx1⟩
   exact A2 fun a ha => AV V ha ⟨rfl, O1, f1, hx1⟩
theorem Np {l : List ByteArray} {y : ByteArray} {i : Nat} (hi : l[i]? = some y) (hn : ∀ j, j < i → l[j]? ≠ some y) : l.findIdx? (fun z => decide (z = y)) = some i := by
 obtain ⟨hl, he⟩ := List.getElem?_eq_some_iff.1 hi
 rw [List.findIdx?_eq_some_iff_getElem]
 refine ⟨hl, by simpa using he, fun j hj => ?_⟩
 have := hn j hj
 rw [List.getElem?_eq_getElem (by omega)] at this
 simpa using this
theorem NF {l : List ByteArray} {y : ByteArray} (hn : ∀ j, j < l.length → l[j]? ≠ some y) : l.findIdx? (fun z => decide (z = y)) = none := by
 rw [List.findIdx?_eq_none_iff]
 intro z hz
 obtain ⟨j, hj⟩ := List.getElem?_of_mem hz
 have := hn j (List.getElem?_eq_some_iff.1 hj).1
 rw [hj] at this
 simpa using this
theorem RB {y : ByteArray} (hy : y.size ≤ maxLen) : MU 136 (.string y) (fun _ _ x => (x.1.str y, x.2)) 1 := by
 intro w0 S p most long x O w hx hu
 have hl := hx.use_lens hu (Nat.le_refl 1)
 obtain ⟨vt, hct, rt, _, _, _⟩ := hx.putTab
 obtain ⟨g, cap, hvt, hget⟩ := Dr rt
 refine AB 43 func136 V V V ?_
 refine Af (Af (Aa (Ah V V (Ae ?_))))
 refine (A1 (AW (ι := Nat) (fun i => [(0, ptr p), (1, .string y), (4, .int .i64 (i : Int))]) (fun i w' => w' = w ∧ i ≤ x.1.tab.length ∧ ∀ j, j < i → x.1.tab[j]? ≠ some y) (fun i => x.1.tab.length - i)
  0 ⟨V, V, V, trivial⟩ ⟨rfl, Nat.zero_le _, fun j hj => absurd hj (by omega)⟩ ?_))
 rintro i w ⟨rfl, hi, hno⟩
 refine Af (Af (Aa (Ac V V (Ac V V (As V V (Ab V (Dl _ _ _) V (Ai V (A4 D_ hct) V ?_)))))))
 subst hvt
 refine AE V (Ay underlying44) V (Al V V (Bh (c := decide (i < x.1.tab.length)) (decide_eq_decide.2 (by omega))) V (Ae (AK V (fun ht => A_ fun a ha => Ad ?_) (fun hf => AQ fun a ha => Aq (Aq (A3 (Ad ?_)))))))
 · have hlt : i < x.1.tab.length := of_decide_eq_true ht
   have hti : x.1.tab[i]? = some x.1.tab[i] := List.getElem?_eq_getElem hlt
   obtain ⟨b, hgb, hcell, _⟩ := hget i (.string x.1.tab[i]) (by rw [List.getElem?_map, hti]; rfl)
   subst hgb
   have hidx : ∀ w, (Instr.indexAt 44 (.slice (some ⟨b, 0, none⟩) x.1.tab.length cap) (.int .i64 (i : Int))).run prog w = .ok (.pointer (some ⟨b, 0 + (i : Int).toNat * 1, none⟩)) w := fun w =>
    Bp underlying44 MM (by omega) (by omega)
   have hcell' : w.cell? ⟨b, 0 + (i : Int).toNat * 1, none⟩ = some (.string x.1.tab[i]) := by simpa using hcell
   refine A8 ha (Af (A1 (Af (Aa (Ac V V (As V V (Ab V (Dl _ _ _) V (Ai V (A4 D_ hct) V (Ac V V (A0 V V (hidx _) V (Ai V (A4 MM hcell') V (Ac V V (Dh V V Jv V (Ae ?_))))))))))))))
   refine AK V (fun he => ?_) (fun he => A_ fun a ha => Az (Ad ?_))
   · have hey : x.1.tab[i] = y := of_decide_eq_true he
     refine Af (Aa (Ac V V (Ac V V (Aj call137 V V (NL (n := i) (by omega) hx hu) ?_ Be))))
     rintro _ w1 ⟨rfl, O1, f1, hx1⟩
     refine Ae (AA fun a ha => Aw (Ao (Ao (Aw (Ao (Nl V ha ⟨rfl, O1, f1, ?_⟩))))))
     have : x.1.str y = x.1.num i := by unfold WS.str; rw [Np (by rw [hti, hey]) hno]
     simp only [this]; exact hx1
   · have hey : x.1.tab[i] ≠ y := of_decide_eq_false he
     refine A8 ha (Aa (Ac V V (Al V V V V (Ah V V (A2 fun a ha => Ad ?_)))))
     refine ⟨i + 1, ha.weak ⟨rfl, rfl, congrArg some (AS (by omega)), trivial⟩, ⟨rfl, hlt, fun j hj => ?_⟩, by omega⟩
     rcases Nat.lt_succ_iff_lt_or_eq.1 hj with h | rfl
     · exact hno j h
     · rw [hti]; exact fun e => hey (Option.some.inj e)
 · have hil : i = x.1.tab.length := by have := of_decide_eq_false hf; omega
   have hstr : x.1.str y = ({ x.1 with tab := x.1.tab ++ [y] } : WS).num x.1.tab.length := by unfold WS.str; rw [NF (hil ▸ hno)]
   refine A8 ha (Af (Aa (Ac V V (Ac V V (As V V (Ab V (Dl _ _ _) V (Ai V (A4 D_ hct) V (AE V (Ay underlying44) V ?_))))))))
   refine Aj call137 V V (NL (n := x.1.tab.length) (by omega) hx hu) ?_ Be
   rintro _ w1 ⟨rfl, O1, f1, hx1⟩
   obtain ⟨vt, hct, rt, hot, hop, put⟩ := hx1.putTab
   refine Ar [(0, ptr p), (1, .string y)] ⟨V, V, trivial⟩ ?_
   refine Aa (Ac V V (Ac V V (As V V (Ab V (Dl _ _ _) V (Ai V (A4 D_ hct) V (Ac V V (A7 V JG V ?_)))))))
   obtain ⟨v2, w2, hr2, r2, f2⟩ := Fh (w := w1.alloc (.cells [Value.string y].toArray 9)) (ty := 44) (ys := [y]) (DC rt _) (Kl (n := 1) (c := 1) AN rfl) (by simp only [WS.num, List.length_cons, List.length_nil]; omega)
   obtain ⟨w3, O3, hst3, f3, hx3⟩ := put v2 w2 _ ((Fr.alloc _ _ _).trans f2) r2 (by
    intro z hz
    rcases List.mem_append.1 hz with h1 | h1
    · exact hx1.tabs z h1
    · rw [List.mem_singleton.1 h1]; exact hy)
   refine AU V V hr2 V (As V V (Ab V (Dl _ _ _) V (An V V hst3 (A2 fun a ha => AV V ha ⟨rfl, O3, f1.trans f3, ?_⟩))))
   show XSt w0 S p most long (x.1.str y, x.2) O3 w3
   rw [hstr]; exact hx3
section
variable {P : Program} {ops : Array Oper} {w : World} {Q : Act → Prop} {rest : List Oper} {n : Nat} {ds : List Deferred} {m : Env} {d : Nat} {ty : TypeId} {pos : String} {aft : Array Edge}
theorem Ce {op : Op} {j : Nat} {want : Bool} {o' : Oper} {dj : Nat} (hj : ops[j]? = some o') (hdj : o'.dst = some dj) (hv : m.get dj = some (.bool want))
 (h : SL P ops w Q (⟨some d, op, ty, pos, aft, none⟩ :: rest) n ds m) : SL P ops w Q (⟨some d, op, ty, pos, aft, some (j, want)⟩ :: rest) n ds m := by
 intro a ha
 have h1 := h a ha
 unfold wpStill at h1 ⊢
 have hw : Region.wanted ⟨some d, op, ty, pos, aft, some (j, want)⟩ (yielded ops a.tmps) = true := by
  simp [Region.wanted, yielded, hj, hdj, ha.slot dj _ hv]
 have hw' : Region.wanted ⟨some d, op, ty, pos, aft, none⟩ (yielded ops a.tmps) = true := by simp [Region.wanted]
 rw [if_pos hw]
 rw [if_pos hw'] at h1
 exact h1
theorem BF {op : Op} {j : Nat} {want : Bool} {o' : Oper} {dj : Nat} {vj : Value} (hj : ops[j]? = some o') (hdj : o'.dst = some dj) (hv : m.get dj = some vj) (hn : Io vj want = false) (hb : Nat.blt d n = true)
 (h : SL P ops w Q rest n ds ((d, undef) :: m)) : SL P ops w Q (⟨some d, op, ty, pos, aft, some (j, want)⟩ :: rest) n ds m := by
 intro a ha
 have h1 := h _ (ha.put d undef hb)
 unfold wpStill
 have hw : Region.wanted ⟨some d, op, ty, pos, aft, some (j, want)⟩ (yielded ops a.tmps) = false := by
  simp only [Region.wanted, yielded, hj, hdj, Option.bind_some, ha.slot dj _ hv]
  cases vj <;> simp_all [Io]
 rw [hw]
 exact h1
theorem I3 {c x y : Operand} {b : Bool} {v : Value} (hc : ev m c = some (.bool b)) (hx : (match b with | true => ev m x | false => ev m y) = some v) (hb : Nat.blt d n = true)
 (h : SL P ops w Q rest n ds ((d, v) :: m)) : SL P ops w Q (⟨some d, .pick c x y, ty, pos, aft, none⟩ :: rest) n ds m :=
 Is rfl rfl hb (fun a ha => by
  cases b
  · simp [execOp, ha.eval hc, asBool, ha.eval hx]
  · simp [execOp, ha.eval hc, asBool, ha.eval hx]) h
theorem K8 {op : BinOp} {t u : Nat} {x y : Operand} {k k' : IntKind} {i j : Int} {v : Value} (hx : ev m x = some (.int k i)) (hy : ev m y = some (.int k' j))
 (hr : (binOp op t (.int k i) (.int k' j)).run P w = .ok v w) (hb : Nat.blt d n = true)
 (h : SL P ops w Q rest n ds ((d, v) :: m)) : SL P ops w Q (⟨some d, .binOp op t x y u, ty, pos, aft, none⟩ :: rest) n ds m :=
 Is rfl rfl hb (fun a ha => by
  have he : eqGuard op t x y (.int k i) (.int k' j) = pure () := by unfold eqGuard; cases op <;> rfl
  simp [execOp, ha.eval hx, ha.eval hy, he, hr]) h
theorem Px {t : TypeId} {x : Operand} {vx v : Value} (hx : ev m x = some vx) (hr : (Builtin.len_ #[t] ty #[vx]).run P w = .ok v w) (hb : Nat.blt d n = true)
 (h : SL P ops w Q rest n ds ((d, v) :: m)) : SL P ops w Q (⟨some d, .call { callee := .builtin .len, args := #[x], argTypes := #[t] }, ty, pos, aft, none⟩ :: rest) n ds m :=
 Is rfl rfl hb (fun a ha => by simp [execOp, resolve, invoke, builtin, ha.eval hx, hr]) h
end
theorem Ph {w0 : World} {S : Nat → Prop} {p most long : Nat} {x : XW} {O : Nat → Prop} {w : World} (hx : XSt w0 S p most long x O w) (hu : x.1.use + 11 * 1 ≤ 2 ^ 40) :
 Calls prog 135 [ptr p].toArray w (Dq (fun r w' => r = .bool (!decide (x.2 = true ∨ most < x.1.nest + 1 ∨ long < x.1.b.length)) ∧ ∃ O', Fr O w O' w' ∧
  XSt w0 S p most long ({ x.1 with nest := x.1.nest + 1 }, decide (x.2 = true ∨ most < x.1.nest + 1 ∨ long < x.1.b.length)) O' w') (fun _ _ => False)) := by
 have hl := hx.use_lens hu (Nat.le_refl 1)
 obtain ⟨hop, hc2, _, _, _, setN, _⟩ := hx.flags
 obtain ⟨w1, O1, hst1, f1, hx1⟩ := setN (x.1.nest + 1)
 refine AB 45 func135 V V V ?_
 refine Af (Aa (Ah V V (Ae ?_)))
 refine Af (Aa (Ac V V (As V V (Ab V (Cw _ _ _) V (Ai V (A4 Hm hc2) V (Al V V V V (As V V (Ab V (Cw _ _ _) V (An V (congrArg some (AS (by omega))) hst1 (Ar [(0, ptr p)] ⟨V, trivial⟩ ?_))))))))))
 have hx2 := hx1.drewN 1
 have f2 : Fr O1 w1 O1 (w1.drewN 1) := Fr.drewn 1
 obtain ⟨vb, hcb, rb, _, _, _⟩ := hx2.put
 obtain ⟨hop2, hn2, hd3, hm4, hl5, _, setD⟩ := hx2.flags
 obtain ⟨g, cap, rfl, _⟩ := Dr rb
 simp only at hn2 hd3
 refine Af (Jp 30 CE (by kernel_rfl) ?_)
 have tail : ∀ d : Bool, d = decide (x.2 = true ∨ most < x.1.nest + 1 ∨ long < x.1.b.length) → ∃ w3 O3, (storeVar 4 ⟨p, 3, none⟩ (.bool d)).run prog (w1.drewN 1) = .ok () w3 ∧ Fr O w O3 w3 ∧
  XSt w0 S p most long ({ x.1 with nest := x.1.nest + 1 }, decide (x.2 = true ∨ most < x.1.nest + 1 ∨ long < x.1.b.length)) O3 w3 := by
  rintro d rfl
  obtain ⟨w3, O3, h1, h2, h3⟩ := setD (decide (x.2 = true ∨ most < x.1.nest + 1 ∨ long < x.1.b.length))
  exact ⟨w3, O3, h1, f1.trans (f2.trans h2), h3⟩
 refine Ek V V (Ek V V (CX V V (CP V (fun w => Dx w _ _) V (G7 V (A4 Ee hd3) V (Ek V V ?_)))))
 cases hdx : x.2 with
 | true =>
  refine BF (j := 5) V V V V V (BF (j := 5) V V V V V (BF (j := 5) V V V V V (BF (j := 5) V V V V V (BF (j := 5) V V V V V (BF (j := 5) V V V V V (BF (j := 5) V V V V V
   (BF (j := 5) rfl rfl rfl rfl rfl (BF (j := 5) rfl rfl rfl rfl rfl (I3 rfl rfl rfl (Ek rfl rfl ?_))))))))))
  refine BF (j := 16) V V V V V (BF (j := 16) V V V V V (BF (j := 16) V V V V V (BF (j := 16) V V V V V (BF (j := 16) V V V V V (BF (j := 16) V V V V V
   (BF (j := 16) rfl rfl rfl rfl rfl (BF (j := 16) rfl rfl rfl rfl rfl (BF (j := 16) rfl rfl rfl rfl rfl (BF (j := 16) rfl rfl rfl rfl rfl (I3 rfl rfl rfl ?_))))))))))
  refine CX V V (CP V (fun w => Dx w _ _) V (Lv ?_))
  obtain ⟨w3, O3, hst, f3, hx3⟩ := tail true (by simp [hdx])
  refine An V V hst (Ae ?_)
  rw [hdx] at hx3
  obtain ⟨_, _, hd, _⟩ := hx3.flags
  exact Af (Aa (Ac V V (As V V (Ab V (Dx _ _ _) V (Ai V (A4 Ee hd) V (Bt V V (Ah V V (Ae (AA fun a ha => Au V ha V ⟨rfl, O3, f3, hx3⟩)))))))))
 | false =>
  refine Ce (j := 5) V V V (Ek V V ?_)
  refine Ce (j := 5) V V V (CX V V ?_)
  refine Ce (j := 5) V V V (CP V (fun w => Cw w _ _) V ?_)
  refine Ce (j := 5) V V V (G7 V (A4 Hm hn2) V ?_)
  refine Ce (j := 5) V V V (Ek V V ?_)
  refine Ce (j := 5) V V V (CX V V ?_)
  refine Ce (j := 5) V V V (CP V (fun w => My w _ _) V ?_)
  refine Ce (j := 5) V V V (G7 V (A4 Hm hm4) V ?_)
  refine Ce (j := 5) V V V (K8 V V (Cu (c := decide (most < x.1.nest + 1)) (decide_eq_decide.2 (by omega))) V ?_)
  refine I3 V V V (Ek V V ?_)
  cases hb1 : decide (most < x.1.nest + 1) with
  | true =>
   have h1 : most < x.1.nest + 1 := of_decide_eq_true hb1
   refine BF (j := 16) V V V V V (BF (j := 16) V V V V V (BF (j := 16) V V V V V (BF (j := 16) V V V V V (BF (j := 16) V V V V V (BF (j := 16) V V V V V
    (BF (j := 16) rfl rfl rfl rfl rfl (BF (j := 16) rfl rfl rfl rfl rfl (BF (j := 16) rfl rfl rfl rfl rfl (BF (j := 16) rfl rfl rfl rfl rfl (I3 rfl rfl rfl ?_))))))))))
   refine CX V V (CP V (fun w => Dx w _ _) V (Lv ?_))
   obtain ⟨w3, O3, hst, f3, hx3⟩ := tail true (decide_eq_true (.inr (.inl h1))).symm
   refine An V V hst (Ae ?_)
   rw [hdx] at hx3
   obtain ⟨_, _, hd, _⟩ := hx3.flags
   exact Af (Aa (Ac V V (As V V (Ab V (Dx _ _ _) V (Ai V (A4 Ee hd) V (Bt V V (Ah V V (Ae (AA fun a ha => Au V ha V ⟨rfl, O3, f3, hx3⟩)))))))))
  | false =>
   have h1 : ¬ most < x.1.nest + 1 := of_decide_eq_false hb1
   refine Ce (j := 16) V V V (Ek V V (Ce (j := 16) V V V (CX V V (Ce (j := 16) V V V (CP V (fun w => CM w _ _) V
    (Ce (j := 16) rfl rfl rfl (G7 rfl (A4 CG hcb) rfl (Ce (j := 16) rfl rfl rfl (Px rfl (Ay underlying22) rfl ?_)))))))))
   refine Ce (j := 16) V V V (Ek V V (Ce (j := 16) V V V (CX V V (Ce (j := 16) V V V (CP V (fun w => MJ w _ _) V
    (Ce (j := 16) rfl rfl rfl (G7 rfl (A4 Hm hl5) rfl (Ce (j := 16) rfl rfl rfl (K8 rfl rfl (Cu (c := decide (long < x.1.b.length)) (decide_eq_decide.2 (by simp only; omega))) rfl ?_)))))))))
   refine I3 V V V (CX V V (CP V (fun w => Dx w _ _) V (Lv ?_)))
   obtain ⟨w3, O3, hst, f3, hx3⟩ := tail (decide (long < x.1.b.length)) (decide_eq_decide.2 (by simp [h1, hdx]))
   refine An V V hst (Ae ?_)
   rw [hdx] at hx3
   obtain ⟨_, _, hd, _⟩ := hx3.flags
   exact Af (Aa (Ac V V (As V V (Ab V (Dx _ _ _) V (Ai V (A4 Ee hd) V (Bt V V (Ah V V (Ae (AA fun a ha => Au V ha V ⟨rfl, O3, f3, hx3⟩)))))))))
end Go.Sx
namespace Go.Sx
open Go.Proofs Go.Proofs.Tryz
def E4 (f : FuncId) (ty : Ty) (t : T) : Prop :=
 ∀ {w0 : World} {S : Nat → Prop} {p most long : Nat} {x : XW} {O : Nat → Prop} {w : World} {cs : List Value}, Rep w0 S t ty cs → XSt w0 S p most long x O w → x.1.use + 11 * t.wt ≤ 2 ^ 40 →
  Calls prog f [ptr p, CU ty cs].toArray w (Dq (fun r w' => r = .tuple #[] ∧ ∃ O', Fr O w O' w' ∧ XSt w0 S p most long (CB most long t x) O' w') (fun _ _ => False))
structure XS (w0 : World) (S : Nat → Prop) (p most long : Nat) (O : Nat → Prop) (w : World) (r : List T) (tgt : XW) (O1 : Nat → Prop) (w1 : World) (x1 : XW) : Prop where
 st : XSt w0 S p most long x1 O1 w1
 fr : Fr O w O1 w1
 eq : BQ most long r x1 = tgt
 bud : x1.1.use + 11 * BA r ≤ 2 ^ 40
theorem GE {most long : Nat} : ∀ (l r : List T) (x : XW), BQ most long (l ++ r) x = BQ most long r (BQ most long l x)
 | [], r, x => by simp only [List.nil_append, BQ]
 | t :: l, r, x => by simp only [List.cons_append, BQ, GE l r]
section
variable {w0 : World} {S : Nat → Prop} {p most long : Nat} {O : Nat → Prop} {w : World} {r : List T} {t : T} {tgt : XW} {O1 : Nat → Prop} {w1 : World} {x1 : XW}
theorem XS.start {x : XW} (h : XSt w0 S p most long x O w) (hu : x.1.use + 11 * BA r ≤ 2 ^ 40) : XS w0 S p most long O w r (BQ most long r x) O w x := ⟨h, Fr.refl _ _, rfl, hu⟩
theorem XS.hd (h : XS w0 S p most long O w (t :: r) tgt O1 w1 x1) : x1.1.use + 11 * t.wt ≤ 2 ^ 40 := by
 have := h.bud; simp only [BA] at this; omega
theorem XS.next (h : XS w0 S p most long O w (t :: r) tgt O1 w1 x1) {O2 : Nat → Prop} {w2 : World} (f : Fr O1 w1 O2 w2) (hs : XSt w0 S p most long (CB most long t x1) O2 w2) :
 XS w0 S p most long O w r tgt O2 w2 (CB most long t x1) := by
 have hu := IK (most := most) (long := long) t x1 h.hd
 have hb := h.bud
 simp only [BA] at hb
 exact ⟨hs, h.fr.trans f, by rw [← h.eq]; simp only [BQ], by omega⟩
theorem XS.call (h : XS w0 S p most long O w (t :: r) tgt O1 w1 x1) {f : FuncId} {ty : Ty} {cs : List Value} (c : E4 f ty t) (hr : Rep w0 S t ty cs) :
 Calls prog f [ptr p, CU ty cs].toArray w1 (Dq (fun v w2 => v = .tuple #[] ∧ ∃ O2 x2, XS w0 S p most long O w r tgt O2 w2 x2) (fun _ _ => False)) :=
 (c hr h.st h.hd).mono (by
  intro e w2 he
  cases e with
  | returned v => obtain ⟨rfl, O2, f, hs⟩ := he; exact ⟨rfl, O2, _, h.next f hs⟩
  | panicked ch => exact he.elim
  | outgrown => exact he.elim)
theorem XS.len {l : List T} (h : XS w0 S p most long O w (.list l :: r) tgt O1 w1 x1) :
 Calls prog 137 [ptr p, .int .i64 (l.length : Int)].toArray w1 (Dq (fun v w2 => v = .tuple #[] ∧ ∃ O2 x2, XS w0 S p most long O w (l ++ r) tgt O2 w2 x2) (fun _ _ => False)) := by
 have hb := h.bud
 simp only [BA, T.wt] at hb
 have hll := BW l
 have hu := Bq (s := x1.1) (n := l.length) (by omega)
 refine (NL (n := l.length) (by omega) h.st (by omega)).mono ?_
 intro e w2 he
 cases e with
 | returned v =>
  obtain ⟨rfl, O2, f, hs⟩ := he
  refine ⟨rfl, O2, _, hs, h.fr.trans f, ?_, ?_⟩
  · rw [← h.eq, GE]; simp only [BQ, CB]
  · rw [CY]; simp only; omega
 | panicked ch => exact he.elim
 | outgrown => exact he.elim
theorem XS.flat {sn : SN} {l : List T} (hd : sn.deep = false) (h : XS w0 S p most long O w (.agg sn l :: r) tgt O1 w1 x1) : XS w0 S p most long O w (l ++ r) tgt O1 w1 x1 := by
 have hb := h.bud
 simp only [BA, T.wt] at hb
 refine ⟨h.st, h.fr, ?_, by rw [CY]; omega⟩
 rw [← h.eq, GE]; simp only [BQ, CB, hd]
theorem XS.isNil (h : XS w0 S p most long O w (.nil :: r) tgt O1 w1 x1) :
 Calls prog 138 [ptr p, .bool false].toArray w1 (Dq (fun v w2 => v = .tuple #[] ∧ ∃ O2 x2, XS w0 S p most long O w r tgt O2 w2 x2) (fun _ _ => False)) := by
 have hh := h.hd
 simp only [T.wt] at hh
 refine (ON (b := false) h.st hh).mono ?_
 intro e w2 he
 cases e with
 | returned v =>
  obtain ⟨rfl, O2, f, hs⟩ := he
  exact ⟨rfl, O2, _, h.next f (by simp only [CB]; exact hs)⟩
 | panicked ch => exact he.elim
 | outgrown => exact he.elim
theorem XS.isPtr (h : XS w0 S p most long O w (.ptr t :: r) tgt O1 w1 x1) :
 Calls prog 138 [ptr p, .bool true].toArray w1 (Dq (fun v w2 => v = .tuple #[] ∧ ∃ O2 x2, XS w0 S p most long O w (t :: r) tgt O2 w2 x2) (fun _ _ => False)) := by
 have hb := h.bud
 simp only [BA, T.wt] at hb
 have hu := Bq (s := x1.1) (n := 1) (by decide)
 refine (ON (b := true) h.st (by omega)).mono ?_
 intro e w2 he
 cases e with
 | returned v =>
  obtain ⟨rfl, O2, f, hs⟩ := he
  refine ⟨rfl, O2, _, hs, h.fr.trans f, ?_, ?_⟩
  · rw [← h.eq]; simp only [BQ, CB]; rfl
  · show (x1.1.num 1).use + _ ≤ _
    simp only [BA]; omega
 | panicked ch => exact he.elim
 | outgrown => exact he.elim
theorem XS.fin (h : XS w0 S p most long O w [] tgt O1 w1 x1) : Fr O w O1 w1 ∧ XSt w0 S p most long tgt O1 w1 := by
 have := h.eq
 simp only [BQ] at this
 exact ⟨h.fr, this ▸ h.st⟩
theorem XSt.at_ {x : XW} (h : XSt w0 S p most long x O w) {b o : Nat} {cs : List Value} (hS : S b) (hb : b < w0.heap.size) (hA : At w0 b o cs) : At w b o cs := hA.agree (h.inp b hS hb).2
end
def Ty.isSt : Ty → Bool
 | .st _ => true
 | _ => false
theorem Ap {w0 w : World} {S : Nat → Prop} {t : T} {f : Ty} {cs : List Value} {tid b o : Nat} (hty : By prog tid f.isSt f.size) (hr : Rep w0 S t f cs) (hA : At w b o cs) :
 (loadVar tid ⟨b, o, none⟩).run prog w = .ok (CU f cs) w := by
 have hl := (Rep.one _ _ _ hr).1
 cases f with
 | st s => exact Bg hty hl hA
 | _ =>
  obtain ⟨v, rfl⟩ := List.length_eq_one_iff.1 hl
  exact A4 hty (hA 0 v V)
theorem Bn {w0 : World} {S : Nat → Prop} {e : Ty} {l : List T} {cs : List Value} (h : Rep w0 S (.list l) (.list e) cs) :
 ∃ g cap, CU (.list e) cs = .slice g l.length cap ∧ l.length ≤ maxLen ∧ ∀ (i : Nat) (t : T), l[i]? = some t → ∃ b o ds,
  (∀ {ty et n : Nat} {agg : Bool} (w : World), prog.underlying ty = some (.slice et) → By prog et agg n → n = e.size → (Instr.indexAt ty (.slice g l.length cap) (.int .i64 (i : Int))).run prog w = .ok (.pointer (some ⟨b, o, none⟩)) w) ∧
  S b ∧ b < w0.heap.size ∧ At w0 b o ds ∧ Rep w0 S t e ds := by
 obtain ⟨g, cap, hv, hml, hg⟩ := Cr h
 refine ⟨g, cap, hv, hml, fun i t hi => ?_⟩
 have hil := (List.getElem?_eq_some_iff.1 hi).1
 rcases hg with ⟨_, rfl⟩ | ⟨b, o, rfl, hS, hb, hL⟩
 · cases hi
 · obtain ⟨ds, hA, _, hr⟩ := RepL.get hL hi
   refine ⟨b, o + i * e.size, ds, fun {ty et n agg} w hu hty hn => ?_, hS, hb, hA, hr⟩
   subst hn
   exact Bp hu hty (by omega) (by omega)
theorem AR {w0 w : World} {S : Nat → Prop} {l : List T} {e : Ty} {cs : List Value} {tid b o cap : Nat} {g : Option Addr} (hv : CU (.list e) cs = .slice g l.length cap) (hty : By prog tid (Ty.list e).isSt (Ty.list e).size)
 (hr : Rep w0 S (.list l) (.list e) cs) (hA : At w b o cs) : (loadVar tid ⟨b, o, none⟩).run prog w = .ok (.slice g l.length cap) w := hv ▸ Ap hty hr hA
theorem Rep.is_list {w0 : World} {S : Nat → Prop} {t : T} {e : Ty} {cs : List Value} (h : Rep w0 S t (.list e) cs) : ∃ l, t = .list l := by
 obtain ⟨l, rfl, _⟩ := h.list_inv
 exact ⟨l, rfl⟩
section
variable {w0 : World} {S : Nat → Prop} {p most long : Nat} {O : Nat → Prop} {w : World} {r l : List T} {t : T} {tgt : XW} {O1 : Nat → Prop} {w1 : World} {x1 : XW} {i : Nat}
theorem XS.pop (h : XS w0 S p most long O w (l.drop i ++ r) tgt O1 w1 x1) (hi : l[i]? = some t) : XS w0 S p most long O w (t :: (l.drop (i + 1) ++ r)) tgt O1 w1 x1 := by
 obtain ⟨hl, rfl⟩ := List.getElem?_eq_some_iff.1 hi
 rw [List.drop_eq_getElem_cons hl] at h
 exact h
theorem XS.popped (h : XS w0 S p most long O w (l.drop i ++ r) tgt O1 w1 x1) (hi : i = l.length) : XS w0 S p most long O w r tgt O1 w1 x1 := by
 rw [hi, List.drop_length] at h
 exact h
end
theorem Ei {t : T} : E4 139 .int t := by
 intro w0 S p most long x O w cs hr hx hu
 obtain ⟨n, rfl, rfl, hn⟩ := hr.int_inv
 have := Rd hn hx (by simpa [T.wt] using hu)
 simp only [CB]
 exact this
theorem DL {t : T} : E4 136 .str t := by
 intro w0 S p most long x O w cs hr hx hu
 obtain ⟨n, rfl, rfl, hn⟩ := hr.str_inv
 have := RB hn hx (by simp only [T.wt] at hu; omega)
 simp only [CB]
 exact this
theorem Jg {t : T} : E4 138 .bool t := by
 intro w0 S p most long x O w cs hr hx hu
 obtain ⟨n, rfl, rfl⟩ := hr.bool_inv
 have := ON (b := n) hx (by simpa [T.wt] using hu)
 simp only [CB]
 exact this
theorem HY {w : World} {n m : Nat} (h1 : n = m + 1) (h2 : m ≤ 2 ^ 40) : (binOp .sub 3 (.int .i64 (n : Int)) (.int .i64 1)).run prog w = .ok (.int .i64 ((n - 1 : Nat) : Int)) w := by
 subst h1
 rw [EH (by unfold Bu; omega), show ((m + 1 : Nat) : Int) - 1 = ((m + 1 - 1 : Nat) : Int) by omega]
theorem Ft {x : XW} {k : Nat} (hu : x.1.use + 11 * (k + 1) ≤ 2 ^ 40) : x.1.nest ≤ 2 ^ 40 := by simp only [WS.use] at hu; omega
theorem Lq {x : XW} {k : Nat} (hu : x.1.use + 11 * (k + 1) ≤ 2 ^ 40) : x.1.use + 11 * 1 ≤ 2 ^ 40 := by omega
theorem FN {x : XW} {k : Nat} {d : Bool} (hu : x.1.use + 11 * (k + 1) ≤ 2 ^ 40) : (({ x.1 with nest := x.1.nest + 1 }, d) : XW).1.use + 11 * k ≤ 2 ^ 40 := by simp only [WS.use] at *; omega
theorem KU {x : XW} {sn : SN} {l : List T} (hu : x.1.use + 11 * (T.agg sn l).wt ≤ 2 ^ 40) : x.1.use + 11 * (BA l + 1) ≤ 2 ^ 40 := by rw [BX] at hu; exact hu
theorem Gn {x : XW} {sn : SN} {l : List T} (hu : x.1.use + 11 * (T.agg sn l).wt ≤ 2 ^ 40) : x.1.use + 11 * BA l ≤ 2 ^ 40 := by rw [BX] at hu; omega
theorem DR {x : XW} {t : T} (hu : x.1.use + 11 * t.wt ≤ 2 ^ 40) : x.1.use + 11 * BA [t] ≤ 2 ^ 40 := by simp only [BA]; omega
theorem BS {i n : Nat} (h : i < n) (hm : n ≤ maxLen) : i < 9223372036854775807 := Nat.lt_of_lt_of_le h hm
theorem KV {t : T} {sn : SN} {fl : List T} {N : Nat} (hm : t ∈ fl) (hN : (T.agg sn fl).wt ≤ N) : t.wt < N := by
 have := B5 hm
 rw [BX] at hN; omega
theorem PH {t : T} {N : Nat} (h : (T.ptr t).wt < N) : t.wt < N := by simp only [T.wt] at h; omega
theorem LH {w : World} {b o : Nat} {cs : List Value} {v : Value} (hp : cs = [v]) (hA : At w b o cs) : w.cell? ⟨b, o, none⟩ = some v := by
 subst hp; exact hA 0 v V
theorem IC {t : T} {l : List T} (hw : t.wt ≤ BA l) : t.wt < (T.list l).wt := by rw [HS]; omega
theorem De {t : T} {sn : SN} {fl l : List T} {N : Nat} (hm : t ∈ fl) (hw : (T.agg sn fl).wt ≤ BA l) (hN : (T.list l).wt ≤ N) : t.wt < N := by
 have := B5 hm
 rw [BX] at hw
 rw [HS] at hN; omega
theorem Ip {most long : Nat} {sn : SN} {l : List T} {x : XW} (hd : sn.deep = true) (hC : x.2 = true ∨ most < x.1.nest + 1 ∨ long < x.1.b.length) : CB most long (.agg sn l) x = ({ x.1 with nest := x.1.nest + 1 - 1 }, true) := by
 simp only [CB, hd]
 rw [if_pos hC]
 rfl
theorem Ix {most long : Nat} {sn : SN} {l : List T} {x : XW} (hd : sn.deep = true) (hC : ¬ (x.2 = true ∨ most < x.1.nest + 1 ∨ long < x.1.b.length)) : CB most long (.agg sn l) x = (BQ most long l ({ x.1 with nest := x.1.nest + 1 }, false)).up := by
 simp only [CB, hd]
 rw [if_neg hC]
section
variable {w0 : World} {S : Nat → Prop} {p most long : Nat} {O : Nat → Prop} {w w' : World} {x : XW}
def plus (w0 : World) (S : Nat → Prop) (bx : Nat) (b : Nat) : Prop := (S b ∧ b < w0.heap.size) ∨ b = bx
theorem XSt.rebase (h : XSt w0 S p most long x O w) (f : Fr (fun _ => False) w (fun _ => False) w') {bx : Nat} (h1 : w.heap.size ≤ bx) (h2 : bx < w'.heap.size) : XSt w' (plus w0 S bx) p most long x O w' := by
 have h' := h.other f (fun _ hf => hf.elim)
 refine ⟨fun b hb _ => ⟨?_, rfl⟩, h'.lt, Nat.le_refl _, h'.mem, h'.tabs⟩
 rcases hb with ⟨hS, hl⟩ | rfl
 · exact (h.inp b hS hl).1
 · exact fun ho => by have := h.lt _ ho; omega
theorem XSt.unbase (h : XSt w0 S p most long x O w) (f : Fr (fun _ => False) w (fun _ => False) w') {bx : Nat} {x' : XW} {O' : Nat → Prop} {w2 : World} (k : XSt w' (plus w0 S bx) p most long x' O' w2) : XSt w0 S p most long x' O' w2 := by
 refine ⟨fun b hS hl => ?_, k.lt, Nat.le_trans h.base (Nat.le_trans f.size k.base), k.mem, k.tabs⟩
 have hbw := Nat.lt_of_lt_of_le hl h.base
 have := k.inp b (.inl ⟨hS, hl⟩) (Nat.lt_of_lt_of_le hbw f.size)
 exact ⟨this.1, by rw [this.2, f.blk b hbw (fun h => h), (h.inp b hS hl).2]⟩
theorem Rep.plus (h : XSt w0 S p most long x O w) (f : Fr (fun _ => False) w (fun _ => False) w') (bx : Nat) {t : T} {ty : Ty} {cs : List Value} (hr : Rep w0 S t ty cs) : Rep w' (plus w0 S bx) t ty cs :=
 Rep.agree (fun b hb hl => ⟨.inl ⟨hb, hl⟩, Nat.lt_of_lt_of_le hl (Nat.le_trans h.base f.size), by rw [f.blk b (Nat.lt_of_lt_of_le hl h.base) (fun h => h), (h.inp b hb hl).2]⟩) _ _ _ hr
end
theorem Dd {w : World} {tid N : Nat} {z : Value} {cs zs : List Value} (hty : By prog tid true N) (hz : z.cells = zs.toArray) (hzl : zs.length = N) (hl : cs.length = N) (h1 : ∀ x ∈ cs, x.oneCell' = true) :
 ∃ w', (storeVar tid ⟨w.heap.size, 0, none⟩ (.agg cs.toArray)).run prog (w.alloc (.cells z.cells tid)) = .ok () w' ∧ Blk w' w.heap.size cs tid ∧ Fr (fun _ => False) w (fun _ => False) w' := by
 have a : Blk (w.alloc (.cells z.cells tid)) w.heap.size zs tid := by rw [hz]; exact AN
 have hst := BR (v := .agg cs.toArray) hty rfl hl h1 a (o := 0) (by omega)
 rw [show Ch zs 0 cs = cs by simp [Ch, hl, hzl]] at hst
 refine ⟨_, hst, a.setRow _, ⟨rfl, rfl, rfl, by simp, fun b hb _ => ?_, fun b hb => hb.elim⟩⟩
 rw [setRow_other _ _ _ _ (by omega), heap_alloc_old w _ b hb]
end Go.Sx
namespace Go.Sx
open Go.Proofs Go.Proofs.Tryz
theorem Rl {t : T} : E4 202 (.st .atom) t := by
 intro w0 S p most long x O w cs hr hx hu
 refine AB 12 func202 V V V ?_
 refine Af (Aa (Cd (v := .agg cs.toArray) V V ?_))
 have fb : Fr (fun _ => False) w (fun _ => False) (w.alloc (.cells cs.toArray 59)) := Fr.alloc _ _ _
 have ab : Blk (w.alloc (.cells cs.toArray 59)) w.heap.size cs 59 := AN
 have hx1 := hx.rebase fb (Nat.le_refl _) ab.lt
 have hr1 := hr.plus hx fb w.heap.size
 show WL _ _ _ _ _ _ _ (w.alloc (.cells cs.toArray 59))
 generalize w.alloc (.cells cs.toArray 59) = wb at fb ab hx1 hr1 ⊢
 generalize w.heap.size = bx at ab hx1 hr1 ⊢
 have hA := ab.all
 have hlt := ab.lt
 have hS : plus w0 S bx bx := .inr rfl
 obtain ⟨fl1, rfl, hlen1, hF1⟩ := hr1.st_inv
 obtain ⟨a1_0, fl1, rfl, r1_0, hF1⟩ := hF1.cons_inv
 obtain ⟨a1_1, fl1, rfl, r1_1, hF1⟩ := hF1.cons_inv
 obtain rfl := hF1.nil_inv
 simp only [Nat.zero_add, Ty.size] at r1_0 r1_1
 have h := XS.start (r := [a1_0, a1_1]) hx1 (Gn hu)
 refine Ar [(0, ptr p), (3, ptr bx)] ⟨V, V, trivial⟩ ?_
 refine Af (Aa (Ac V V (Ab V (J9 _ _ _) V (Ai V (Ap (f := .int) Cj r1_0 (h.st.at_ hS hlt (hA.sub 0 1))) V (Aj call139 V V (h.call Ei r1_0) ?_ Be)))))
 rintro _ w1 ⟨rfl, O1, x1, h⟩
 refine Ae ?_
 refine Aa (Ac V V (Ab V (JE _ _ _) V (Ai V (Ap (f := .str) Cc r1_1 (h.st.at_ hS hlt (hA.sub 1 1))) V (Aj call136 V V (h.call DL r1_1) ?_ Be))))
 rintro _ w1 ⟨rfl, O1, x1, h⟩
 refine A2 fun a ha => ?_
 obtain ⟨ff, hs⟩ := h.fin
 exact AV V ha ⟨rfl, O1, (fb.drop (fun _ h => h.elim)).trans ff, hx.unbase fb hs⟩
theorem Qh {t : T} : E4 203 (.st .test) t := by
 intro w0 S p most long x O w cs hr hx hu
 refine AB 12 func203 V V V ?_
 refine Af (Aa (Cd (v := .agg cs.toArray) V V ?_))
 have fb : Fr (fun _ => False) w (fun _ => False) (w.alloc (.cells cs.toArray 61)) := Fr.alloc _ _ _
 have ab : Blk (w.alloc (.cells cs.toArray 61)) w.heap.size cs 61 := AN
 have hx1 := hx.rebase fb (Nat.le_refl _) ab.lt
 have hr1 := hr.plus hx fb w.heap.size
 show WL _ _ _ _ _ _ _ (w.alloc (.cells cs.toArray 61))
 generalize w.alloc (.cells cs.toArray 61) = wb at fb ab hx1 hr1 ⊢
 generalize w.heap.size = bx at ab hx1 hr1 ⊢
 have hA := ab.all
 have hlt := ab.lt
 have hS : plus w0 S bx bx := .inr rfl
 obtain ⟨fl2, rfl, hlen2, hF2⟩ := hr1.st_inv
 obtain ⟨a2_0, fl2, rfl, r2_0, hF2⟩ := hF2.cons_inv
 obtain ⟨a2_1, fl2, rfl, r2_1, hF2⟩ := hF2.cons_inv
 obtain rfl := hF2.nil_inv
 simp only [Nat.zero_add, Ty.size] at r2_0 r2_1
 have h := XS.start (r := [a2_0, a2_1]) hx1 (Gn hu)
 refine Ar [(0, ptr p), (3, ptr bx)] ⟨V, V, trivial⟩ ?_
 refine Af (Aa (Ac V V (Ab V (MR _ _ _) V (Ai V (Ap (f := .int) Cj r2_0 (h.st.at_ hS hlt (hA.sub 0 1))) V (Aj call139 V V (h.call Ei r2_0) ?_ Be)))))
 rintro _ w1 ⟨rfl, O1, x1, h⟩
 refine Ae ?_
 refine Aa (Ac V V (Ab V (Nf _ _ _) V (Ai V (Ap (f := .str) Cc r2_1 (h.st.at_ hS hlt (hA.sub 1 1))) V (Aj call136 V V (h.call DL r2_1) ?_ Be))))
 rintro _ w1 ⟨rfl, O1, x1, h⟩
 refine A2 fun a ha => ?_
 obtain ⟨ff, hs⟩ := h.fin
 exact AV V ha ⟨rfl, O1, (fb.drop (fun _ h => h.elim)).trans ff, hx.unbase fb hs⟩
theorem NS {t : T} : E4 201 (.st .type) t := by
 intro w0 S p most long x O w cs hr hx hu
 refine AB 20 func201 V V V ?_
 refine Af (Aa (Cd (v := .agg cs.toArray) V V ?_))
 have fb : Fr (fun _ => False) w (fun _ => False) (w.alloc (.cells cs.toArray 63)) := Fr.alloc _ _ _
 have ab : Blk (w.alloc (.cells cs.toArray 63)) w.heap.size cs 63 := AN
 have hx1 := hx.rebase fb (Nat.le_refl _) ab.lt
 have hr1 := hr.plus hx fb w.heap.size
 show WL _ _ _ _ _ _ _ (w.alloc (.cells cs.toArray 63))
 generalize w.alloc (.cells cs.toArray 63) = wb at fb ab hx1 hr1 ⊢
 generalize w.heap.size = bx at ab hx1 hr1 ⊢
 have hA := ab.all
 have hlt := ab.lt
 have hS : plus w0 S bx bx := .inr rfl
 obtain ⟨fl3, rfl, hlen3, hF3⟩ := hr1.st_inv
 obtain ⟨a3_0, fl3, rfl, r3_0, hF3⟩ := hF3.cons_inv
 obtain ⟨a3_1, fl3, rfl, r3_1, hF3⟩ := hF3.cons_inv
 obtain ⟨a3_2, fl3, rfl, r3_2, hF3⟩ := hF3.cons_inv
 obtain ⟨a3_3, fl3, rfl, r3_3, hF3⟩ := hF3.cons_inv
 obtain rfl := hF3.nil_inv
 simp only [Nat.zero_add, Nat.reduceAdd, Ty.size, SN.size] at r3_0 r3_1 r3_2 r3_3
 have h := XS.start (r := [a3_0, a3_1, a3_2, a3_3]) hx1 (Gn hu)
 refine Ar [(0, ptr p), (3, ptr bx)] ⟨V, V, trivial⟩ ?_
 refine Af (Aa (Ac V V (Ab V (J7 _ _ _) V (Ai V (Ap (f := .int) Cj r3_0 (h.st.at_ hS hlt (hA.sub 0 1))) V (Aj call139 V V (h.call Ei r3_0) ?_ Be)))))
 rintro _ w1 ⟨rfl, O1, x1, h⟩
 refine Ae ?_
 refine Af (Aa (Ac V V (Ab V (JH _ _ _) V (Ai V (Ap (f := .int) Cj r3_1 (h.st.at_ hS hlt (hA.sub 1 1))) V (Aj call139 V V (h.call Ei r3_1) ?_ Be)))))
 rintro _ w1 ⟨rfl, O1, x1, h⟩
 refine Ae ?_
 refine Af (Aa (Ac V V (Ab V (JK _ _ _) V (Ai V (Ap (f := .st .test) IL r3_2 (h.st.at_ hS hlt (hA.sub 2 2))) V (Aj call203 V V (h.call Qh r3_2) ?_ Be)))))
 rintro _ w1 ⟨rfl, O1, x1, h⟩
 refine Ae ?_
 refine Aa (Ac V V (Ab V (JA _ _ _) V (Ai V (Ap (f := .str) Cc r3_3 (h.st.at_ hS hlt (hA.sub 4 1))) V (Aj call136 V V (h.call DL r3_3) ?_ Be))))
 rintro _ w1 ⟨rfl, O1, x1, h⟩
 refine A2 fun a ha => ?_
 obtain ⟨ff, hs⟩ := h.fin
 exact AV V ha ⟨rfl, O1, (fb.drop (fun _ h => h.elim)).trans ff, hx.unbase fb hs⟩
theorem PJ {t : T} : E4 145 (.list (.str)) t := by
 intro w0 S p most long x O w cs hr hx hu
 obtain ⟨l, rfl⟩ := hr.is_list
 obtain ⟨g, cap, hv, hml, hget⟩ := Bn hr
 rw [hv]
 have h := XS.start (r := [.list l]) hx (DR hu)
 refine AB 21 func145 V V V ?_
 refine Af (Aa (Ac V V (Ac V V (AE V (Ay underlying44) V (Aj call137 V V h.len ?_ Be)))))
 rintro _ w1 ⟨rfl, O1, x1, h⟩
 refine Ae (Af (Aa (Ah V V (Ae ?_))))
 refine A1 (AW (ι := Nat × (Nat → Prop) × XW × World) (fun i => [(0, ptr p), (1, .slice g l.length cap), (4, .int .i64 (i.1 : Int))])
  (fun i w' => w' = i.2.2.2 ∧ i.1 ≤ l.length ∧ XS w0 S p most long O w (l.drop i.1 ++ []) (BQ most long [.list l] x) i.2.1 w' i.2.2.1) (fun i => l.length - i.1) (0, O1, x1, w1) ⟨V, V, V, trivial⟩ ⟨rfl, Nat.zero_le _, h⟩ ?_)
 clear h
 rintro ⟨i, O1, x1, _⟩ w1 ⟨rfl, hi, h⟩
 simp only at hi h ⊢
 refine Af (Af (Aa (Ac V V (Ac V V (AE V (Ay underlying44) V (Al V V (Bh (c := decide (i < l.length)) (decide_eq_decide.2 Int.ofNat_lt.symm)) V (Ae (AK V (fun ht => A_ fun a ha => Ad ?_) (fun hf => AQ fun a ha => Aq (Aq (A3 ?_)))))))))))
 · have hil : i < l.length := of_decide_eq_true ht
   obtain ⟨t, hti⟩ : ∃ t, l[i]? = some t := ⟨_, List.getElem?_eq_getElem hil⟩
   obtain ⟨b, o, ds, hix, hS, hlt, hA, hr1⟩ := hget i t hti
   have hw := B5 (List.mem_of_getElem? hti)
   replace h := h.pop hti
   refine A8 ha (Af (A1 ?_))
   refine Aa (Ac V V (Ac V V (Ac V V (A0 V V (hix _ underlying44 Cc V) V (Ai V (Ap (f := .str) Cc hr1 (h.st.at_ hS hlt hA)) V (Aj call136 V V (h.call DL hr1) ?_ Be))))))
   rintro _ w1 ⟨rfl, O1, x1, h⟩
   refine A2 fun a ha => Az (Ad ?_)
   refine A8 ha (Aa (Ac V V (Al V V V V (Ah V V (A2 fun a ha => Ad ?_)))))
   exact ⟨(i + 1, O1, x1, w1), ha.weak ⟨rfl, rfl, congrArg some (AS (BS hil hml)), trivial⟩, ⟨rfl, hil, h⟩, Nat.sub_lt_sub_left hil (Nat.lt_succ_self i)⟩
 · have hend : i = l.length := Nat.le_antisymm hi (Nat.le_of_not_lt (of_decide_eq_false hf))
   obtain ⟨ff, hs⟩ := (h.popped hend).fin
   simp only [BQ] at hs
   exact AV V ha ⟨rfl, O1, ff, hs⟩
theorem PN {t : T} (ih : ∀ t', t'.wt < t.wt → E4 144 (.st .expr) t') : E4 143 (.list (.st .expr)) t := by
 intro w0 S p most long x O w cs hr hx hu
 obtain ⟨l, rfl⟩ := hr.is_list
 obtain ⟨g, cap, hv, hml, hget⟩ := Bn hr
 rw [hv]
 have h := XS.start (r := [.list l]) hx (DR hu)
 refine AB 21 func143 V V V ?_
 refine Af (Aa (Ac V V (Ac V V (AE V (Ay underlying64) V (Aj call137 V V h.len ?_ Be)))))
 rintro _ w1 ⟨rfl, O1, x1, h⟩
 refine Ae (Af (Aa (Ah V V (Ae ?_))))
 refine A1 (AW (ι := Nat × (Nat → Prop) × XW × World) (fun i => [(0, ptr p), (1, .slice g l.length cap), (4, .int .i64 (i.1 : Int))])
  (fun i w' => w' = i.2.2.2 ∧ i.1 ≤ l.length ∧ XS w0 S p most long O w (l.drop i.1 ++ []) (BQ most long [.list l] x) i.2.1 w' i.2.2.1) (fun i => l.length - i.1) (0, O1, x1, w1) ⟨V, V, V, trivial⟩ ⟨rfl, Nat.zero_le _, h⟩ ?_)
 clear h
 rintro ⟨i, O1, x1, _⟩ w1 ⟨rfl, hi, h⟩
 simp only at hi h ⊢
 refine Af (Af (Aa (Ac V V (Ac V V (AE V (Ay underlying64) V (Al V V (Bh (c := decide (i < l.length)) (decide_eq_decide.2 Int.ofNat_lt.symm)) V (Ae (AK V (fun ht => A_ fun a ha => Ad ?_) (fun hf => AQ fun a ha => Aq (Aq (A3 ?_)))))))))))
 · have hil : i < l.length := of_decide_eq_true ht
   obtain ⟨t, hti⟩ : ∃ t, l[i]? = some t := ⟨_, List.getElem?_eq_getElem hil⟩
   obtain ⟨b, o, ds, hix, hS, hlt, hA, hr1⟩ := hget i t hti
   have hw := B5 (List.mem_of_getElem? hti)
   replace h := h.pop hti
   refine A8 ha (Af (A1 ?_))
   refine Aa (Ac V V (Ac V V (Ac V V (A0 V V (hix _ underlying64 BY V) V (Ai V (Ap (f := .st .expr) BY hr1 (h.st.at_ hS hlt hA)) V (Aj call144 V V (h.call (ih _ (IC hw)) hr1) ?_ Be))))))
   rintro _ w1 ⟨rfl, O1, x1, h⟩
   refine A2 fun a ha => Az (Ad ?_)
   refine A8 ha (Aa (Ac V V (Al V V V V (Ah V V (A2 fun a ha => Ad ?_)))))
   exact ⟨(i + 1, O1, x1, w1), ha.weak ⟨rfl, rfl, congrArg some (AS (BS hil hml)), trivial⟩, ⟨rfl, hil, h⟩, Nat.sub_lt_sub_left hil (Nat.lt_succ_self i)⟩
 · have hend : i = l.length := Nat.le_antisymm hi (Nat.le_of_not_lt (of_decide_eq_false hf))
   obtain ⟨ff, hs⟩ := (h.popped hend).fin
   simp only [BQ] at hs
   exact AV V ha ⟨rfl, O1, ff, hs⟩
theorem R_ : ∀ (N : Nat) (t : T), t.wt ≤ N → E4 144 (.st .expr) t := by
 intro N
 induction N using Nat.strongRecOn with
 | _ N IH =>
 intro t hN
 intro w0 S p most long x O w cs hr hx hu
 refine AB 53 func144 V V V ?_
 refine Af (Aa (Cd (v := .agg cs.toArray) V V ?_))
 have fb : Fr (fun _ => False) w (fun _ => False) (w.alloc (.cells cs.toArray 66)) := Fr.alloc _ _ _
 have ab : Blk (w.alloc (.cells cs.toArray 66)) w.heap.size cs 66 := AN
 have hx1 := hx.rebase fb (Nat.le_refl _) ab.lt
 have hr1 := hr.plus hx fb w.heap.size
 show WL _ _ _ _ _ _ _ (w.alloc (.cells cs.toArray 66))
 generalize w.alloc (.cells cs.toArray 66) = wb at fb ab hx1 hr1 ⊢
 generalize w.heap.size = bx at ab hx1 hr1 ⊢
 have hA := ab.all
 have hlt := ab.lt
 have hS : plus w0 S bx bx := .inr rfl
 obtain ⟨fl4, rfl, hlen4, hF4⟩ := hr1.st_inv
 obtain ⟨a4_0, fl4, rfl, r4_0, hF4⟩ := hF4.cons_inv
 obtain ⟨a4_1, fl4, rfl, r4_1, hF4⟩ := hF4.cons_inv
 obtain ⟨a4_2, fl4, rfl, r4_2, hF4⟩ := hF4.cons_inv
 obtain ⟨a4_3, fl4, rfl, r4_3, hF4⟩ := hF4.cons_inv
 obtain ⟨a4_4, fl4, rfl, r4_4, hF4⟩ := hF4.cons_inv
 obtain ⟨a4_5, fl4, rfl, r4_5, hF4⟩ := hF4.cons_inv
 obtain ⟨a4_6, fl4, rfl, r4_6, hF4⟩ := hF4.cons_inv
 obtain ⟨a4_7, fl4, rfl, r4_7, hF4⟩ := hF4.cons_inv
 obtain ⟨a4_8, fl4, rfl, r4_8, hF4⟩ := hF4.cons_inv
 obtain ⟨a4_9, fl4, rfl, r4_9, hF4⟩ := hF4.cons_inv
 obtain rfl := hF4.nil_inv
 simp only [Nat.zero_add, Nat.reduceAdd, Ty.size, SN.size] at r4_0 r4_1 r4_2 r4_3 r4_4 r4_5 r4_6 r4_7 r4_8 r4_9
 replace hu := KU hu
 refine Ar [(0, ptr p), (3, ptr bx)] ⟨V, V, trivial⟩ ?_
 refine Af (Af (Aa (Ac V V (Aj call135 V V (Ph hx1 (Lq hu)) ?_ Be))))
 rintro _ w1 ⟨rfl, O1, fd, hx2⟩
 refine Ae (AK V (fun ht => ?_) (fun hf => A_ fun a ha => Ad ?_))
 · have hC : ¬ (x.2 = true ∨ most < x.1.nest + 1 ∨ long < x.1.b.length) := by simpa only [Bool.not_eq_true', decide_eq_false_iff_not] using ht
   rw [decide_eq_false hC] at hx2
   have h := XS.start (r := [a4_0, a4_1, a4_2, a4_3, a4_4, a4_5, a4_6, a4_7, a4_8, a4_9]) hx2 (FN hu)
   refine Af (Aa (Ac V V (Ab V (HR _ _ _) V (Ai V (Ap (f := .int) Cj r4_0 (h.st.at_ hS hlt (hA.sub 0 1))) V (Aj call139 V V (h.call Ei r4_0) ?_ Be)))))
   rintro _ w1 ⟨rfl, O1, x1, h⟩
   refine Ae ?_
   refine Af (Aa (Ac V V (Ab V (Ie _ _ _) V (Ai V (Ap (f := .str) Cc r4_1 (h.st.at_ hS hlt (hA.sub 1 1))) V (Aj call136 V V (h.call DL r4_1) ?_ Be)))))
   rintro _ w1 ⟨rfl, O1, x1, h⟩
   refine Ae ?_
   refine Af (Aa (Ac V V (Ab V (HV _ _ _) V (Ai V (Ap (f := .str) Cc r4_2 (h.st.at_ hS hlt (hA.sub 2 1))) V (Aj call136 V V (h.call DL r4_2) ?_ Be)))))
   rintro _ w1 ⟨rfl, O1, x1, h⟩
   refine Ae ?_
   refine Af (Aa (Ac V V (Ab V (HA _ _ _) V (Ai V (Ap (f := .int) Cj r4_3 (h.st.at_ hS hlt (hA.sub 3 1))) V (Aj call139 V V (h.call Ei r4_3) ?_ Be)))))
   rintro _ w1 ⟨rfl, O1, x1, h⟩
   refine Ae ?_
   refine Af (Aa (Ac V V (Ab V (EA _ _ _) V (Ai V (Ap (f := .st .atom) Pw r4_4 (h.st.at_ hS hlt (hA.sub 4 2))) V (Aj call202 V V (h.call Rl r4_4) ?_ Be)))))
   rintro _ w1 ⟨rfl, O1, x1, h⟩
   refine Ae ?_
   refine Af (Aa (Ac V V (Ab V (HO _ _ _) V (Ai V (Ap (f := .int) Cj r4_5 (h.st.at_ hS hlt (hA.sub 6 1))) V (Aj call139 V V (h.call Ei r4_5) ?_ Be)))))
   rintro _ w1 ⟨rfl, O1, x1, h⟩
   refine Ae ?_
   refine Af (Aa (Ac V V (Ab V (Hw _ _ _) V (Ai V (Ap (f := .st .test) IL r4_6 (h.st.at_ hS hlt (hA.sub 7 2))) V (Aj call203 V V (h.call Qh r4_6) ?_ Be)))))
   rintro _ w1 ⟨rfl, O1, x1, h⟩
   refine Ae ?_
   refine Af (Aa (Ac V V (Ab V (HW _ _ _) V (Ai V (Ap (f := .st .type) D9 r4_7 (h.st.at_ hS hlt (hA.sub 9 5))) V (Aj call201 V V (h.call NS r4_7) ?_ Be)))))
   rintro _ w1 ⟨rfl, O1, x1, h⟩
   refine Ae ?_
   refine Af (Aa (Ac V V (Ab V (EB _ _ _) V (Ai V (Ap (f := .list (.str)) D_ r4_8 (h.st.at_ hS hlt (hA.sub 14 1))) V (Aj call145 V V (h.call PJ r4_8) ?_ Be)))))
   rintro _ w1 ⟨rfl, O1, x1, h⟩
   refine Ae ?_
   refine Aa (Ac V V (Ab V (E_ _ _ _) V (Ai V (Ap (f := .list (.st .expr)) Eh r4_9 (h.st.at_ hS hlt (hA.sub 15 1))) V (Aj call143 V V (h.call (PN (fun t' ht => IH t'.wt (Nat.lt_trans ht (KV (by simp) hN)) t' (Nat.le_refl _))) r4_9) ?_ Be))))
   rintro _ w1 ⟨rfl, O1, x1, h⟩
   refine A2 fun a ha => Ad ?_
   obtain ⟨ff, hs⟩ := h.fin
   have hnn : (BQ most long [a4_0, a4_1, a4_2, a4_3, a4_4, a4_5, a4_6, a4_7, a4_8, a4_9] ({ x.1 with nest := x.1.nest + 1 }, false)).1.nest = x.1.nest + 1 := (Ef (most := most) (long := long) [a4_0, a4_1, a4_2, a4_3, a4_4, a4_5, a4_6, a4_7, a4_8, a4_9] ({ x.1 with nest := x.1.nest + 1 }, false) (FN hu)).2
   have e := Ix (most := most) (long := long) (l := [a4_0, a4_1, a4_2, a4_3, a4_4, a4_5, a4_6, a4_7, a4_8, a4_9]) (sn := .expr) (x := x) rfl hC
   clear h
   generalize BQ most long [a4_0, a4_1, a4_2, a4_3, a4_4, a4_5, a4_6, a4_7, a4_8, a4_9] ({ x.1 with nest := x.1.nest + 1 }, false) = tgt at hs hnn e
   obtain ⟨_, hc2, _, _, _, setN, _⟩ := hs.flags
   obtain ⟨w2, O2, hstu, fu, hu2⟩ := setN (tgt.1.nest - 1)
   refine A8 ha (Aa (Ac V V (As V V (Ab V (Cw _ _ _) V (Ai V (A4 Hm hc2) V (Al V V (HY hnn (Ft hu)) V (As V V (Ab V (Cw _ _ _) V (An V V hstu (A2 fun a ha => ?_))))))))))
   rw [e]
   exact AV V ha ⟨rfl, O2, (fb.drop (fun _ h => h.elim)).trans (fd.trans (ff.trans fu)), hx.unbase fb hu2⟩
 · have hC : x.2 = true ∨ most < x.1.nest + 1 ∨ long < x.1.b.length := by simpa only [Bool.not_eq_false', decide_eq_true_eq] using hf
   rw [decide_eq_true hC] at hx2
   have hnn : x.1.nest + 1 = x.1.nest + 1 := rfl
   obtain ⟨_, hc2, _, _, _, setN, _⟩ := hx2.flags
   simp only at hc2 setN
   obtain ⟨w2, O2, hstu, fu, hu2⟩ := setN (x.1.nest + 1 - 1)
   refine A8 ha (Aa (Ac V V (As V V (Ab V (Cw _ _ _) V (Ai V (A4 Hm hc2) V (Al V V (HY hnn (Ft hu)) V (As V V (Ab V (Cw _ _ _) V (An V V hstu (A2 fun a ha => ?_))))))))))
   have e := Ip (most := most) (long := long) (l := [a4_0, a4_1, a4_2, a4_3, a4_4, a4_5, a4_6, a4_7, a4_8, a4_9]) (sn := .expr) (x := x) rfl hC
   rw [e]
   exact AV V ha ⟨rfl, O2, (fb.drop (fun _ h => h.elim)).trans (fd.trans fu), hx.unbase fb hu2⟩
theorem GQ {t : T} : E4 144 (.st .expr) t := R_ t.wt t (Nat.le_refl _)
theorem Mw {t : T} : E4 143 (.list (.st .expr)) t := PN (fun _ _ => GQ)
theorem PZ {t : T} : E4 244 (.list (.st .part)) t := by
 intro w0 S p most long x O w cs hr hx hu
 obtain ⟨l, rfl⟩ := hr.is_list
 obtain ⟨g, cap, hv, hml, hget⟩ := Bn hr
 rw [hv]
 have h := XS.start (r := [.list l]) hx (DR hu)
 refine AB 36 func244 V V V ?_
 refine Af (Aa (Ac V V (Ac V V (AE V (Ay underlying57) V (Aj call137 V V h.len ?_ Be)))))
 rintro _ w1 ⟨rfl, O1, x1, h⟩
 refine Ae (Af (Aa (Ah V V (Ae ?_))))
 refine A1 (AW (ι := Nat × (Nat → Prop) × XW × World) (fun i => [(0, ptr p), (1, .slice g l.length cap), (4, .int .i64 (i.1 : Int))])
  (fun i w' => w' = i.2.2.2 ∧ i.1 ≤ l.length ∧ XS w0 S p most long O w (l.drop i.1 ++ []) (BQ most long [.list l] x) i.2.1 w' i.2.2.1) (fun i => l.length - i.1) (0, O1, x1, w1) ⟨V, V, V, trivial⟩ ⟨rfl, Nat.zero_le _, h⟩ ?_)
 clear h
 rintro ⟨i, O1, x1, _⟩ w1 ⟨rfl, hi, h⟩
 simp only at hi h ⊢
 refine Af (Af (Aa (Ac V V (Ac V V (AE V (Ay underlying57) V (Al V V (Bh (c := decide (i < l.length)) (decide_eq_decide.2 Int.ofNat_lt.symm)) V (Ae (AK V (fun ht => A_ fun a ha => Ad ?_) (fun hf => AQ fun a ha => Aq (Aq (A3 ?_)))))))))))
 · have hil : i < l.length := of_decide_eq_true ht
   obtain ⟨t, hti⟩ : ∃ t, l[i]? = some t := ⟨_, List.getElem?_eq_getElem hil⟩
   obtain ⟨b, o, ds, hix, hS, hlt, hA, hr1⟩ := hget i t hti
   have hw := B5 (List.mem_of_getElem? hti)
   replace h := h.pop hti
   refine A8 ha (Af (A1 ?_))
   obtain ⟨fl5, rfl, hlen5, hF5⟩ := hr1.st_inv
   obtain ⟨a5_0, fl5, rfl, r5_0, hF5⟩ := hF5.cons_inv
   obtain ⟨a5_1, fl5, rfl, r5_1, hF5⟩ := hF5.cons_inv
   obtain ⟨a5_2, fl5, rfl, r5_2, hF5⟩ := hF5.cons_inv
   obtain rfl := hF5.nil_inv
   simp only [Nat.zero_add, Nat.reduceAdd, Ty.size, SN.size] at r5_0 r5_1 r5_2
   replace h := h.flat rfl
   refine Af (Aa (Ac V V (Ac V V (Ac V V (A0 V V (hix _ underlying57 Eq V) V (Ab V (Gx _ _ _) V (Ai V (Ap (f := .str) Cc r5_0 (h.st.at_ hS hlt (hA.sub 0 1))) V (Aj call136 V V (h.call DL r5_0) ?_ Be))))))))
   rintro _ w1 ⟨rfl, O1, x1, h⟩
   refine Ae ?_
   refine Af (Aa (Ac V V (Ac V V (Ac V V (A0 V V (hix _ underlying57 Eq V) V (Ab V (Fu _ _ _) V (Ai V (Ap (f := .bool) Dp r5_1 (h.st.at_ hS hlt (hA.sub 1 1))) V (Aj call138 V V (h.call Jg r5_1) ?_ Be))))))))
   rintro _ w1 ⟨rfl, O1, x1, h⟩
   refine Ae ?_
   refine Aa (Ac V V (Ac V V (Ac V V (A0 V V (hix _ underlying57 Eq V) V (Ab V (Ga _ _ _) V (Ai V (Ap (f := .st .expr) BY r5_2 (h.st.at_ hS hlt (hA.sub 2 16))) V (Aj call144 V V (h.call GQ r5_2) ?_ Be)))))))
   rintro _ w1 ⟨rfl, O1, x1, h⟩
   refine A2 fun a ha => Az (Ad ?_)
   refine A8 ha (Aa (Ac V V (Al V V V V (Ah V V (A2 fun a ha => Ad ?_)))))
   exact ⟨(i + 1, O1, x1, w1), ha.weak ⟨rfl, rfl, congrArg some (AS (BS hil hml)), trivial⟩, ⟨rfl, hil, h⟩, Nat.sub_lt_sub_left hil (Nat.lt_succ_self i)⟩
 · have hend : i = l.length := Nat.le_antisymm hi (Nat.le_of_not_lt (of_decide_eq_false hf))
   obtain ⟨ff, hs⟩ := (h.popped hend).fin
   simp only [BQ] at hs
   exact AV V ha ⟨rfl, O1, ff, hs⟩
theorem Qn {t : T} : E4 245 (.list (.st .sort)) t := by
 intro w0 S p most long x O w cs hr hx hu
 obtain ⟨l, rfl⟩ := hr.is_list
 obtain ⟨g, cap, hv, hml, hget⟩ := Bn hr
 rw [hv]
 have h := XS.start (r := [.list l]) hx (DR hu)
 refine AB 43 func245 V V V ?_
 refine Af (Aa (Ac V V (Ac V V (AE V (Ay underlying67) V (Aj call137 V V h.len ?_ Be)))))
 rintro _ w1 ⟨rfl, O1, x1, h⟩
 refine Ae (Af (Aa (Ah V V (Ae ?_))))
 refine A1 (AW (ι := Nat × (Nat → Prop) × XW × World) (fun i => [(0, ptr p), (1, .slice g l.length cap), (4, .int .i64 (i.1 : Int))])
  (fun i w' => w' = i.2.2.2 ∧ i.1 ≤ l.length ∧ XS w0 S p most long O w (l.drop i.1 ++ []) (BQ most long [.list l] x) i.2.1 w' i.2.2.1) (fun i => l.length - i.1) (0, O1, x1, w1) ⟨V, V, V, trivial⟩ ⟨rfl, Nat.zero_le _, h⟩ ?_)
 clear h
 rintro ⟨i, O1, x1, _⟩ w1 ⟨rfl, hi, h⟩
 simp only at hi h ⊢
 refine Af (Af (Aa (Ac V V (Ac V V (AE V (Ay underlying67) V (Al V V (Bh (c := decide (i < l.length)) (decide_eq_decide.2 Int.ofNat_lt.symm)) V (Ae (AK V (fun ht => A_ fun a ha => Ad ?_) (fun hf => AQ fun a ha => Aq (Aq (A3 ?_)))))))))))
 · have hil : i < l.length := of_decide_eq_true ht
   obtain ⟨t, hti⟩ : ∃ t, l[i]? = some t := ⟨_, List.getElem?_eq_getElem hil⟩
   obtain ⟨b, o, ds, hix, hS, hlt, hA, hr1⟩ := hget i t hti
   have hw := B5 (List.mem_of_getElem? hti)
   replace h := h.pop hti
   refine A8 ha (Af (A1 ?_))
   obtain ⟨fl6, rfl, hlen6, hF6⟩ := hr1.st_inv
   obtain ⟨a6_0, fl6, rfl, r6_0, hF6⟩ := hF6.cons_inv
   obtain ⟨a6_1, fl6, rfl, r6_1, hF6⟩ := hF6.cons_inv
   obtain ⟨a6_2, fl6, rfl, r6_2, hF6⟩ := hF6.cons_inv
   obtain ⟨a6_3, fl6, rfl, r6_3, hF6⟩ := hF6.cons_inv
   obtain rfl := hF6.nil_inv
   simp only [Nat.zero_add, Nat.reduceAdd, Ty.size, SN.size] at r6_0 r6_1 r6_2 r6_3
   replace h := h.flat rfl
   refine Af (Aa (Ac V V (Ac V V (Ac V V (A0 V V (hix _ underlying67 DJ V) V (Ab V (FT _ _ _) V (Ai V (Ap (f := .st .expr) BY r6_0 (h.st.at_ hS hlt (hA.sub 0 16))) V (Aj call144 V V (h.call GQ r6_0) ?_ Be))))))))
   rintro _ w1 ⟨rfl, O1, x1, h⟩
   refine Ae ?_
   refine Af (Aa (Ac V V (Ac V V (Ac V V (A0 V V (hix _ underlying67 DJ V) V (Ab V (Fy _ _ _) V (Ai V (Ap (f := .bool) Dp r6_1 (h.st.at_ hS hlt (hA.sub 16 1))) V (Aj call138 V V (h.call Jg r6_1) ?_ Be))))))))
   rintro _ w1 ⟨rfl, O1, x1, h⟩
   refine Ae ?_
   refine Af (Aa (Ac V V (Ac V V (Ac V V (A0 V V (hix _ underlying67 DJ V) V (Ab V (Gl _ _ _) V (Ai V (Ap (f := .bool) Dp r6_2 (h.st.at_ hS hlt (hA.sub 17 1))) V (Aj call138 V V (h.call Jg r6_2) ?_ Be))))))))
   rintro _ w1 ⟨rfl, O1, x1, h⟩
   refine Ae ?_
   refine Aa (Ac V V (Ac V V (Ac V V (A0 V V (hix _ underlying67 DJ V) V (Ab V (Gy _ _ _) V (Ai V (Ap (f := .str) Cc r6_3 (h.st.at_ hS hlt (hA.sub 18 1))) V (Aj call136 V V (h.call DL r6_3) ?_ Be)))))))
   rintro _ w1 ⟨rfl, O1, x1, h⟩
   refine A2 fun a ha => Az (Ad ?_)
   refine A8 ha (Aa (Ac V V (Al V V V V (Ah V V (A2 fun a ha => Ad ?_)))))
   exact ⟨(i + 1, O1, x1, w1), ha.weak ⟨rfl, rfl, congrArg some (AS (BS hil hml)), trivial⟩, ⟨rfl, hil, h⟩, Nat.sub_lt_sub_left hil (Nat.lt_succ_self i)⟩
 · have hend : i = l.length := Nat.le_antisymm hi (Nat.le_of_not_lt (of_decide_eq_false hf))
   obtain ⟨ff, hs⟩ := (h.popped hend).fin
   simp only [BQ] at hs
   exact AV V ha ⟨rfl, O1, ff, hs⟩
theorem Qf {t : T} (ih : ∀ t', t'.wt < t.wt → E4 200 (.list (.st .instr)) t') : E4 199 (.list (.st .param)) t := by
 intro w0 S p most long x O w cs hr hx hu
 obtain ⟨l, rfl⟩ := hr.is_list
 obtain ⟨g, cap, hv, hml, hget⟩ := Bn hr
 rw [hv]
 have h := XS.start (r := [.list l]) hx (DR hu)
 refine AB 50 func199 V V V ?_
 refine Af (Aa (Ac V V (Ac V V (AE V (Ay underlying68) V (Aj call137 V V h.len ?_ Be)))))
 rintro _ w1 ⟨rfl, O1, x1, h⟩
 refine Ae (Af (Aa (Ah V V (Ae ?_))))
 refine A1 (AW (ι := Nat × (Nat → Prop) × XW × World) (fun i => [(0, ptr p), (1, .slice g l.length cap), (4, .int .i64 (i.1 : Int))])
  (fun i w' => w' = i.2.2.2 ∧ i.1 ≤ l.length ∧ XS w0 S p most long O w (l.drop i.1 ++ []) (BQ most long [.list l] x) i.2.1 w' i.2.2.1) (fun i => l.length - i.1) (0, O1, x1, w1) ⟨V, V, V, trivial⟩ ⟨rfl, Nat.zero_le _, h⟩ ?_)
 clear h
 rintro ⟨i, O1, x1, _⟩ w1 ⟨rfl, hi, h⟩
 simp only at hi h ⊢
 refine Af (Af (Aa (Ac V V (Ac V V (AE V (Ay underlying68) V (Al V V (Bh (c := decide (i < l.length)) (decide_eq_decide.2 Int.ofNat_lt.symm)) V (Ae (AK V (fun ht => A_ fun a ha => Ad ?_) (fun hf => AQ fun a ha => Aq (Aq (A3 ?_)))))))))))
 · have hil : i < l.length := of_decide_eq_true ht
   obtain ⟨t, hti⟩ : ∃ t, l[i]? = some t := ⟨_, List.getElem?_eq_getElem hil⟩
   obtain ⟨b, o, ds, hix, hS, hlt, hA, hr1⟩ := hget i t hti
   have hw := B5 (List.mem_of_getElem? hti)
   replace h := h.pop hti
   refine A8 ha (Af (A1 ?_))
   obtain ⟨fl7, rfl, hlen7, hF7⟩ := hr1.st_inv
   obtain ⟨a7_0, fl7, rfl, r7_0, hF7⟩ := hF7.cons_inv
   obtain ⟨a7_1, fl7, rfl, r7_1, hF7⟩ := hF7.cons_inv
   obtain ⟨a7_2, fl7, rfl, r7_2, hF7⟩ := hF7.cons_inv
   obtain ⟨a7_3, fl7, rfl, r7_3, hF7⟩ := hF7.cons_inv
   obtain ⟨a7_4, fl7, rfl, r7_4, hF7⟩ := hF7.cons_inv
   obtain rfl := hF7.nil_inv
   simp only [Nat.zero_add, Nat.reduceAdd, Ty.size, SN.size] at r7_0 r7_1 r7_2 r7_3 r7_4
   replace h := h.flat rfl
   refine Af (Aa (Ac V V (Ac V V (Ac V V (A0 V V (hix _ underlying68 D2 V) V (Ab V (Gg _ _ _) V (Ai V (Ap (f := .str) Cc r7_0 (h.st.at_ hS hlt (hA.sub 0 1))) V (Aj call136 V V (h.call DL r7_0) ?_ Be))))))))
   rintro _ w1 ⟨rfl, O1, x1, h⟩
   refine Ae ?_
   refine Af (Aa (Ac V V (Ac V V (Ac V V (A0 V V (hix _ underlying68 D2 V) V (Ab V (Gm _ _ _) V (Ai V (Ap (f := .st .type) D9 r7_1 (h.st.at_ hS hlt (hA.sub 1 5))) V (Aj call201 V V (h.call NS r7_1) ?_ Be))))))))
   rintro _ w1 ⟨rfl, O1, x1, h⟩
   refine Ae ?_
   refine Af (Aa (Ac V V (Ac V V (Ac V V (A0 V V (hix _ underlying68 D2 V) V (Ab V (F8 _ _ _) V (Ai V (Ap (f := .bool) Dp r7_2 (h.st.at_ hS hlt (hA.sub 6 1))) V (Aj call138 V V (h.call Jg r7_2) ?_ Be))))))))
   rintro _ w1 ⟨rfl, O1, x1, h⟩
   refine Ae ?_
   refine Af (Aa (Ac V V (Ac V V (Ac V V (A0 V V (hix _ underlying68 D2 V) V (Ab V (FB _ _ _) V (Ai V (Ap (f := .st .expr) BY r7_3 (h.st.at_ hS hlt (hA.sub 7 16))) V (Aj call144 V V (h.call GQ r7_3) ?_ Be))))))))
   rintro _ w1 ⟨rfl, O1, x1, h⟩
   refine Ae ?_
   refine Aa (Ac V V (Ac V V (Ac V V (A0 V V (hix _ underlying68 D2 V) V (Ab V (Gq _ _ _) V (Ai V (Ap (f := .list (.st .instr)) Dt r7_4 (h.st.at_ hS hlt (hA.sub 23 1))) V (Aj call200 V V (h.call (ih _ (De (by simp) hw (Nat.le_refl _))) r7_4) ?_ Be)))))))
   rintro _ w1 ⟨rfl, O1, x1, h⟩
   refine A2 fun a ha => Az (Ad ?_)
   refine A8 ha (Aa (Ac V V (Al V V V V (Ah V V (A2 fun a ha => Ad ?_)))))
   exact ⟨(i + 1, O1, x1, w1), ha.weak ⟨rfl, rfl, congrArg some (AS (BS hil hml)), trivial⟩, ⟨rfl, hil, h⟩, Nat.sub_lt_sub_left hil (Nat.lt_succ_self i)⟩
 · have hend : i = l.length := Nat.le_antisymm hi (Nat.le_of_not_lt (of_decide_eq_false hf))
   obtain ⟨ff, hs⟩ := (h.popped hend).fin
   simp only [BQ] at hs
   exact AV V ha ⟨rfl, O1, ff, hs⟩
end Go.Sx
