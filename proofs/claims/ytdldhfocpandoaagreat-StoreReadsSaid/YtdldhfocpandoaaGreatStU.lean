import Derived.Test.YtdldhfocpandoaaGreatStH
import Derived.Test.YtdldhfocpandoaaGreatStT
set_option maxHeartbeats 8000000
set_option maxRecDepth 8000
namespace Go.Sx
structure QS where
 rest : List UInt8
 tab : List ByteArray
 nest : Nat
 bad : Bool
def IT (s : RS) (q : QS) : Prop := q.bad = false ∧ q.rest = s.b ∧ q.tab = s.tab ∧ q.nest = s.nest
def QE : SN → Nat
 | .atom => 3 | .test => 3 | .type => 7 | .expr => 21 | .part => 24 | .param => 32 | .sort => 25 | .source => 23 | .ctch => 3 | .instr => 64 | .template => 13 | .dfn => 35 | .global => 37 | .key => 24
 | .rule => 24 | .accum => 24 | .mode => 7 | .output => 6 | .swap => 3 | .charMap => 3 | .use => 5 | .sheet => 11
def zw : Ty → Nat
 | .st s => QE s
 | _ => 1
def OH : List Ty → Nat
 | [] => 0
 | f :: fs => zw f + OH fs
def IR : SN → Nat
 | .atom => 2 | .test => 2 | .type => 3 | .expr => 0 | .part => 2 | .param => 4 | .sort => 2 | .source => 4 | .ctch => 3 | .instr => 0 | .template => 6 | .dfn => 6 | .global => 4 | .key => 2
 | .rule => 2 | .accum => 4 | .mode => 2 | .output => 3 | .swap => 2 | .charMap => 4 | .use => 2 | .sheet => 0
def IX : Ty → Nat
 | .st s => IR s
 | .list e => IX e + 1
 | .ptr e => IX e + 1
 | _ => 1
def IA (f : Ty) (n : Nat) : Nat := 300900 * IX f + 3009000 * (1001 - n)
theorem NP (s : SN) : OH s.fields + 1 = QE s := by cases s <;> rfl
theorem Ou (s : SN) : QE s ≤ 64 := by cases s <;> decide
theorem L3 (fs : List Ty) (f : Ty) : OH (fs ++ [f]) = OH fs + zw f := by
 induction fs with
 | nil => simp [OH]
 | cons g fs ih => simp only [List.cons_append, OH, ih]; omega
theorem Hg (l : List T) (t : T) : BA (l ++ [t]) = BA l + t.wt := by
 induction l with
 | nil => simp [BA]
 | cons g fs ih => simp only [List.cons_append, BA, ih]; omega
structure Ik (f : Ty) (q q' : QS) (t : T) : Prop where
 z : q.bad = true → q'.bad = true ∧ q'.rest.length = q.rest.length ∧ t.wt ≤ 3009 * zw f
 g : q.bad = false → q'.bad = false → t.wt + 1 + 3010 * q'.rest.length ≤ 3010 * q.rest.length
 b : q.bad = false → q'.bad = true → t.wt + 3010 * q'.rest.length ≤ 3010 * q.rest.length + IA f q.nest
structure CostF (R : Nat) (fs : List Ty) (q q' : QS) (l : List T) : Prop where
 z : q.bad = true → q'.bad = true ∧ q'.rest.length = q.rest.length ∧ BA l ≤ 3009 * OH fs
 g : q.bad = false → q'.bad = false → BA l + l.length + 3010 * q'.rest.length ≤ 3010 * q.rest.length
 b : q.bad = false → q'.bad = true → BA l + 3010 * q'.rest.length ≤ 3010 * q.rest.length + 300900 * R + 3009000 * (1001 - q.nest) + 3009 * OH fs
theorem CostF.nil {R : Nat} {q : QS} : CostF R [] q q [] :=
 ⟨fun h => ⟨h, rfl, Nat.le_refl _⟩, fun _ _ => by simp [BA], fun h h' => by rw [h] at h'; cases h'⟩
theorem CostF.snoc {R : Nat} {fs : List Ty} {f : Ty} {q q1 q2 : QS} {l : List T} {t : T} (h : CostF R fs q q1 l) (c : Ik f q1 q2 t) (hn : q1.nest = q.nest) (hr : IX f ≤ R) : CostF R (fs ++ [f]) q q2 (l ++ [t]) := by
 refine ⟨fun h0 => ?_, fun h0 h2 => ?_, fun h0 h2 => ?_⟩
 · obtain ⟨a1, a2, a3⟩ := h.z h0
   obtain ⟨b1, b2, b3⟩ := c.z a1
   exact ⟨b1, b2.trans a2, by rw [Hg, L3]; omega⟩
 · have h1 : q1.bad = false := by
    cases hb : q1.bad with
    | false => rfl
    | true => rw [(c.z hb).1] at h2; cases h2
   have a := h.g h0 h1
   have b := c.g h1 h2
   rw [Hg]; simp only [List.length_append, List.length_cons, List.length_nil]; omega
 · rw [Hg, L3]
   cases h1 : q1.bad with
   | false =>
    have a := h.g h0 h1
    have b := c.b h1 h2
    rw [hn] at b
    unfold IA at b
    omega
   | true =>
    have a := h.b h0 h1
    obtain ⟨b1, b2, b3⟩ := c.z h1
    rw [b2]; omega
theorem CostF.st {s : SN} {q q' : QS} {l : List T} (h : CostF (IR s - 1) s.fields q q' l) (hd : s.deep = false) (hl : l.length = s.fields.length) : Ik (.st s) q q' (.agg s l) := by
 have h1 := NP s
 have h2 := JZ s
 have h3 := Ou s
 refine ⟨fun h0 => ?_, fun h0 h2 => ?_, fun h0 h2 => ?_⟩
 · obtain ⟨a1, a2, a3⟩ := h.z h0
   exact ⟨a1, a2, by simp only [T.wt, zw]; omega⟩
 · have a := h.g h0 h2
   simp only [T.wt]; omega
 · have a := h.b h0 h2
   have hr : 2 ≤ IR s := by cases s <;> first | decide | (exact absurd hd (by decide))
   simp only [T.wt, IA, IX]; omega
theorem CostF.deep {s : SN} {q q1 q' q2 : QS} {l : List T} (h : CostF 7 s.fields q1 q' l) (_hd : s.deep = true) (hl : l.length = s.fields.length) (h0 : q.bad = false) (hb : q1.bad = false) (hr : q1.rest = q.rest) (hn : q1.nest = q.nest + 1) (hq : q.nest ≤ 999)
 (e1 : q2.bad = q'.bad) (e2 : q2.rest = q'.rest) : Ik (.st s) q q2 (.agg s l) := by
 have h1 := NP s
 have h2 := JZ s
 have h3 := Ou s
 refine ⟨fun h0' => (by rw [h0] at h0'; cases h0'), fun _ h2 => ?_, fun _ h2 => ?_⟩
 · have a := h.g hb (e1.symm.trans h2)
   rw [hr] at a
   rw [e2]; simp only [T.wt]; omega
 · have a := h.b hb (e1.symm.trans h2)
   rw [hr, hn] at a
   rw [e2]; simp only [T.wt, IA, IX]; omega
structure CostL (e : Ty) (q q' : QS) (l : List T) : Prop where
 z : q.bad = true → q'.bad = true ∧ q'.rest.length = q.rest.length ∧ l = []
 g : q.bad = false → q'.bad = false → BA l + 2 + 3010 * q'.rest.length ≤ 3010 * q.rest.length
 b : q.bad = false → q'.bad = true → BA l + 3010 * q'.rest.length ≤ 3010 * q.rest.length + IA e q.nest
theorem CostL.snoc {e : Ty} {q q1 q2 : QS} {l : List T} {t : T} (h : CostL e q q1 l) (c : Ik e q1 q2 t) (hn : q1.nest = q.nest) (h1 : q1.bad = false) : CostL e q q2 (l ++ [t]) := by
 refine ⟨fun h0 => ?_, fun h0 h2 => ?_, fun h0 h2 => ?_⟩
 · rw [(h.z h0).1] at h1; cases h1
 · have a := h.g h0 h1
   have b := c.g h1 h2
   rw [Hg]; omega
 · have a := h.g h0 h1
   have b := c.b h1 h2
   rw [hn] at b
   rw [Hg]; omega
theorem CostL.list {e : Ty} {q q' : QS} {l : List T} (h : CostL e q q' l) : Ik (.list e) q q' (.list l) := by
 refine ⟨fun h0 => ?_, fun h0 h2 => ?_, fun h0 h2 => ?_⟩
 · obtain ⟨a1, a2, rfl⟩ := h.z h0
   exact ⟨a1, a2, by simp [T.wt, BA, zw]⟩
 · have a := h.g h0 h2
   simp only [T.wt]; omega
 · have a := h.b h0 h2
   simp only [T.wt, IA, IX] at *; omega
def Fits (f : Ty) (q q' : QS) (t : T) : Prop := ∀ s, IT s q → ∀ u s', CK u f s = some s' → t = u ∧ IT s' q'
def FitsF (all : List Ty) (q q' : QS) (l : List T) : Prop := ∀ s, IT s q → ∀ u s', BT u all s = some s' → ∃ r s1, u = l ++ r ∧ IT s1 q' ∧ BT r (all.drop l.length) s1 = some s'
def FitsL (e : Ty) (q q' : QS) (n : Nat) (l : List T) : Prop := ∀ s, IT s q → ∀ u s', u.length = n → DD u e s = some s' → ∃ r s1, u = l ++ r ∧ IT s1 q' ∧ DD r e s1 = some s'
theorem FitsF.nil {all : List Ty} {q : QS} : FitsF all q q [] := fun s hs u _s' h => ⟨u, s, rfl, hs, h⟩
theorem FitsF.snoc {all : List Ty} {f : Ty} {q q1 q2 : QS} {l : List T} {t : T} (h : FitsF all q q1 l) (c : Fits f q1 q2 t) (hf : all[l.length]? = some f) : FitsF all q q2 (l ++ [t]) := by
 intro s hs u s' hu
 obtain ⟨r, s1, rfl, h1, h2⟩ := h s hs u s' hu
 obtain ⟨hlt, hg⟩ := List.getElem?_eq_some_iff.1 hf
 rw [List.drop_eq_getElem_cons hlt, hg] at h2
 cases r with
 | nil => simp only [BT] at h2; cases h2
 | cons x r =>
  simp only [BT, Option.bind_eq_some_iff] at h2
  obtain ⟨s2, h3, h4⟩ := h2
  obtain ⟨rfl, h5⟩ := c s1 h1 x s2 h3
  exact ⟨r, s2, by simp, h5, by rw [List.length_append]; exact h4⟩
theorem FitsF.st {sn : SN} {q q' : QS} {l : List T} (h : FitsF sn.fields q q' l) (hd : sn.deep = false) (hl : l.length = sn.fields.length) : Fits (.st sn) q q' (.agg sn l) := by
 intro s hs u s' hu
 cases u <;> simp only [CK] at hu <;> try cases hu
 rename_i sn' l'
 split at hu
 · rename_i e
   subst e
   rw [hd] at hu
   obtain ⟨r, s1, rfl, h1, h2⟩ := h s hs l' s' hu
   rw [hl, List.drop_length] at h2
   cases r with
   | nil => simp only [BT, Option.some.injEq] at h2; subst h2; exact ⟨by rw [List.append_nil], h1⟩
   | cons x r => simp only [BT] at h2; cases h2
 · cases hu
theorem FitsF.deep {sn : SN} {q q1 q' q2 : QS} {l : List T} (h : FitsF sn.fields q1 q' l) (hd : sn.deep = true) (hl : l.length = sn.fields.length) (hb : q1.bad = false) (hr : q1.rest = q.rest) (ht : q1.tab = q.tab) (hn : q1.nest = q.nest + 1)
 (e1 : q2.bad = q'.bad) (e2 : q2.rest = q'.rest) (e3 : q2.tab = q'.tab) (e4 : q2.nest = q.nest) : Fits (.st sn) q q2 (.agg sn l) := by
 intro s hs u s' hu
 cases u <;> simp only [CK] at hu <;> try cases hu
 rename_i sn' l'
 split at hu
 · rename_i e
   subst e
   rw [hd] at hu
   simp only at hu
   split at hu
   · cases hu
   · simp only [Option.map_eq_some_iff] at hu
     obtain ⟨s2, hu, rfl⟩ := hu
     obtain ⟨k1, k2, k3, k4⟩ := hs
     obtain ⟨r, s1, rfl, h1, h2⟩ := h { s with nest := s.nest + 1 } ⟨hb, hr.trans k2, ht.trans k3, by rw [hn, k4]⟩ l' s2 hu
     rw [hl, List.drop_length] at h2
     cases r with
     | nil =>
      simp only [BT, Option.some.injEq] at h2; subst h2
      obtain ⟨j1, j2, j3, j4⟩ := h1
      exact ⟨by rw [List.append_nil], e1.trans j1, e2.trans j2, e3.trans j3, e4.trans k4⟩
     | cons x r => simp only [BT] at h2; cases h2
 · cases hu
theorem Fits.none {f : Ty} {q q' : QS} {t : T} (h : ∀ s, IT s q → ∀ u s', CK u f s ≠ some s') : Fits f q q' t := fun s hs u s' hu => absurd hu (h s hs u s')
theorem Fits.bad {f : Ty} {q q' : QS} {t : T} (h : q.bad = true) : Fits f q q' t := fun s hs u s' hu => by rw [hs.1] at h; cases h
theorem Lb {sn : SN} {q q' : QS} {t : T} (hd : sn.deep = true) (hn : 1000 < q.nest + 1) : Fits (.st sn) q q' t := by
 refine Fits.none fun s hs u s' hu => ?_
 cases u <;> simp only [CK] at hu <;> try cases hu
 split at hu
 · rename_i e
   subst e
   rw [hd] at hu
   simp only at hu
   rw [if_pos (by have := hs.2.2.2; omega)] at hu
   cases hu
 · cases hu
theorem FitsL.snoc {e : Ty} {q q1 q2 : QS} {n : Nat} {l : List T} {t : T} (h : FitsL e q q1 n l) (c : Fits e q1 q2 t) (hlt : l.length < n) : FitsL e q q2 n (l ++ [t]) := by
 intro s hs u s' hn hu
 obtain ⟨r, s1, rfl, h1, h2⟩ := h s hs u s' hn hu
 cases r with
 | nil => rw [List.append_nil] at hn; omega
 | cons x r =>
  simp only [DD, Option.bind_eq_some_iff] at h2
  obtain ⟨s2, h3, h4⟩ := h2
  obtain ⟨rfl, h5⟩ := c s1 h1 x s2 h3
  exact ⟨r, s2, by simp, h5, h4⟩
theorem FitsL.list {e : Ty} {q q1 q' : QS} {n : Nat} {l : List T} (hlen : ∀ s, IT s q → ∀ m s1, s.eat m = some s1 → m ≤ s1.b.length → m = n ∧ IT s1 q1) (h : FitsL e q1 q' n l) (hend : q'.bad = true ∨ l.length = n) : Fits (.list e) q q' (.list l) := by
 intro s hs u s' hu
 cases u <;> simp only [CK] at hu <;> try cases hu
 rename_i l'
 simp only [Option.bind_eq_some_iff] at hu
 obtain ⟨s1, h1, hu⟩ := hu
 split at hu
 · rename_i hle
   obtain ⟨hm, hf⟩ := hlen s hs _ s1 h1 hle
   obtain ⟨r, s2, rfl, k1, k2⟩ := h s1 hf l' s' hm hu
   rcases hend with hb | hl
   · rw [k1.1] at hb; cases hb
   · have : r = [] := List.eq_nil_of_length_eq_zero (by simp only [List.length_append] at hm; omega)
     subst this
     simp only [DD, Option.some.injEq] at k2; subst k2
     exact ⟨by rw [List.append_nil], k1⟩
 · cases hu
end Go.Sx
namespace Go.Sx
open Go.Proofs Go.Proofs.Tryz
structure Oy (p : Nat) (full : List UInt8) (n0 : Nat) (q : QS) (w : World) (vb vt : Value) : Prop where
 blk : Blk w p [vb, .int .i64 ((full.length - q.rest.length : Nat) : Int), vt, .int .i64 (q.nest : Nat), .bool q.bad] 95
 bts : Bts w vb full
 nb : ∀ k, Bk vb k → k < n0 ∧ k ≠ p
 row : w.ownsRow 0 9 1 vt q.tab.length (q.tab.map Value.string)
 nt : ∀ k, Bk vt k → k < n0 ∧ k ≠ p
structure QSt (n0 p : Nat) (full : List UInt8) (q : QS) (w : World) : Prop where
 lp : p < n0
 ln : n0 ≤ w.heap.size
 mem : ∃ vb vt, Oy p full n0 q w vb vt
 le : q.rest.length ≤ full.length
 suf : full.drop (full.length - q.rest.length) = q.rest
 fl : full.length ≤ 3008
 st : q.tab.length ≤ 3008
 tabs : ∀ x ∈ q.tab, x.size ≤ 3008
 sn : q.nest ≤ 1001
section
variable {n0 p : Nat} {full : List UInt8} {q : QS} {w : World}
theorem QSt.keep (h : QSt n0 p full q w) {U U' : Nat → Prop} {w' : World} (f : Fr U w U' w') (hu : ∀ k, U k → n0 ≤ k) : QSt n0 p full q w' := by
 obtain ⟨vb, vt, m⟩ := h.mem
 have hb : ∀ k, k < n0 → w'.heap[k]? = w.heap[k]? := fun k hk => f.blk k (Nat.lt_of_lt_of_le hk h.ln) (fun hk' => by have := hu k hk'; omega)
 exact ⟨h.lp, Nat.le_trans h.ln f.size, ⟨vb, vt, (hb p h.lp).trans m.blk, m.bts.keepB f.size (fun k hk => hb k (m.nb k hk).1), m.nb, AP m.row (fun k hk => hb k (m.nt k hk).1), m.nt⟩, h.le, h.suf, h.fl, h.st, h.tabs, h.sn⟩
theorem QSt.set (h : QSt n0 p full q w) {vb vt : Value} {q' : QS} (m : Oy p full n0 q w vb vt) (ht : q'.tab = q.tab) (h1 : q'.rest.length ≤ full.length) (h2 : full.drop (full.length - q'.rest.length) = q'.rest) (h3 : q'.nest ≤ 1001) :
 QSt n0 p full q' (w.setRow p [vb, .int .i64 ((full.length - q'.rest.length : Nat) : Int), vt, .int .i64 (q'.nest : Nat), .bool q'.bad].toArray) := by
 refine ⟨h.lp, by simp only [BB]; exact h.ln, ⟨vb, vt, m.blk.setRow _, m.bts.keepB (by simp only [BB]; exact Nat.le_refl _) (fun k hk => setRow_other _ _ _ _ (m.nb k hk).2), m.nb, ?_, m.nt⟩, h1, h2, h.fl, ht ▸ h.st, ht ▸ h.tabs, h3⟩
 rw [ht]
 exact AP m.row (fun k hk => setRow_other _ _ _ _ (m.nt k hk).2)
end
theorem Lj : AF prog 95 0 0 := fun w b o => by
 simp [Instr.fieldAt, runUnderlying95, Instr.sureAddr, fieldPlace, sizeOf22, Addr.add_lit]
theorem ED : AF prog 95 1 1 := fun w b o => by
 simp [Instr.fieldAt, runUnderlying95, Instr.sureAddr, fieldPlace, sizeOf3, Addr.add_lit]
theorem D5 : AF prog 95 2 2 := fun w b o => by
 simp [Instr.fieldAt, runUnderlying95, Instr.sureAddr, fieldPlace, sizeOf44, Addr.add_lit]
theorem DS : AF prog 95 3 3 := fun w b o => by
 simp [Instr.fieldAt, runUnderlying95, Instr.sureAddr, fieldPlace, sizeOf3, Addr.add_lit]
theorem BV : AF prog 95 4 4 := fun w b o => by
 simp [Instr.fieldAt, runUnderlying95, Instr.sureAddr, fieldPlace, sizeOf4, Addr.add_lit]
theorem ET : By prog 3 false 1 := Cj
theorem Blk.get {w : World} {b t : Nat} {cs : List Value} (h : Blk w b cs t) {i : Nat} {v : Value} (hv : cs[i]? = some v) : w.cell? ⟨b, i, none⟩ = some v := by rw [h.cell]; exact hv
theorem Ln {v : Value} (h : v.oneCell' = true) : ∀ x ∈ [v], x.oneCell' = true := by intro x hx; simp only [List.mem_singleton] at hx; subst hx; exact h
theorem Fg {w : World} {p i t : Nat} {cs cs' : List Value} {v : Value} (hb : Blk w p cs 95) (hty : By prog t false 1) (hc : v.cells = #[v]) (h1 : v.oneCell' = true) (hi : i + 1 ≤ cs.length) (hs : Ch cs i [v] = cs') :
 (storeVar t ⟨p, i, none⟩ v).run prog w = .ok () (w.setRow p cs'.toArray) := by
 have := BR (P := prog) (t := t) (n := 1) (agg := false) (b := p) (o := i) (v := v) (vs := [v]) hty hc rfl (Ln h1) hb hi
 rwa [hs] at this
theorem Pb (z : Nat) : IntKind.u64.wrap (z : Int) = ((z % 18446744073709551616 : Nat) : Int) := by
 simp only [IntKind.wrap, IntKind.bits, IntKind.signed, Bool.false_and]
 simp
theorem L2 {w : World} {t : TypeId} {a d : Nat} {k : IntKind} {c : Int} (hc : c = (d : Int)) (hd : d ≤ 64) : (binOp .shl t (.int .u64 (a : Int)) (.int k c)).run prog w = .ok (.int .u64 ((a * 2 ^ d % 18446744073709551616 : Nat) : Int)) w := by
 subst hc
 show (Op.shift .shl .u64 a k d).run prog w = _
 have h1 : ¬ ((d : Int) < 0) := by omega
 have h2 : ((a : Int) * 2 ^ d) = ((a * 2 ^ d : Nat) : Int) := by simp
 have h3 : min d IntKind.u64.bits = d := Nat.min_eq_left hd
 simp only [Op.shift, h1, if_false, Int.toNat_natCast, h3, h2]
 rw [Pb]; rfl
theorem LJ {w : World} {t : TypeId} {a b : Nat} : (binOp .add t (.int .u64 (a : Int)) (.int .u64 (b : Int))).run prog w = .ok (.int .u64 (((a + b) % 18446744073709551616 : Nat) : Int)) w := by
 show Result.ok (Value.int .u64 (IntKind.u64.wrap ((a : Int) + (b : Int)))) w = _
 rw [show (a : Int) + (b : Int) = ((a + b : Nat) : Int) by simp, Pb]
def Trk (p : Nat) (w w' : World) : Prop := ∀ vb a vt b c, Blk w p [vb, a, vt, b, c] 95 → ∃ a' b' c', Blk w' p [vb, a', vt, b', c'] 95
theorem Trk.refl {p : Nat} {w : World} : Trk p w w := fun _ _ _ _ _ h => ⟨_, _, _, h⟩
theorem Trk.keep {p : Nat} {w w1 w2 : World} (h : Trk p w w1) (f : F0 w1 w2) : Trk p w w2 := fun vb a vt b c hb => by
 obtain ⟨a', b', c', h1⟩ := h vb a vt b c hb
 exact ⟨a', b', c', kb f h1⟩
theorem Ne {w : World} {b t : Nat} {cs ds : List Value} (h : Blk w b cs t) (k : Blk w b ds t) : cs = ds := by
 unfold Blk at h k
 rw [h] at k
 simpa using k
theorem Trk.set {p : Nat} {w w1 : World} {vb a vt b c a' b' c' : Value} (h : Trk p w w1) (hb : Blk w1 p [vb, a, vt, b, c] 95) : Trk p w (w1.setRow p [vb, a', vt, b', c'].toArray) := fun vb0 a0 vt0 b0 c0 hb0 => by
 obtain ⟨a2, b2, c2, h1⟩ := h vb0 a0 vt0 b0 c0 hb0
 have e := Ne h1 hb
 simp only [List.cons.injEq] at e
 obtain ⟨rfl, _, rfl, _, _⟩ := e
 exact ⟨_, _, _, hb.setRow _⟩
theorem Trk.trans {p : Nat} {w w1 w2 : World} (h : Trk p w w1) (k : Trk p w1 w2) : Trk p w w2 := fun vb a vt b c hb => by
 obtain ⟨a', b', c', h1⟩ := h vb a vt b c hb
 exact k _ _ _ _ _ h1
def R5 (n0 p : Nat) (full : List UInt8) (q : QS) (w : World) (v : Value) (w' : World) : Prop :=
 ∃ n q', v = .int .u64 ((n : Nat) : Int) ∧ n < 18446744073709551616 ∧ QSt n0 p full q' w' ∧ Fr (only p) w (only p) w' ∧ q'.tab = q.tab ∧ q'.nest = q.nest ∧ (q.bad = true → n = 0 ∧ q' = q) ∧
  (q.bad = false → q'.bad = false → q'.rest.length + 1 ≤ q.rest.length) ∧ q'.rest.length ≤ q.rest.length ∧ (q'.bad = true → n = 0) ∧
  (q.bad = false → ∀ m r, m < 18446744073709551616 → q.rest = num m ++ r → n = m ∧ q'.bad = false ∧ q'.rest = r) ∧ Trk p w w'
def QS.at (q : QS) (i : Nat) : QS := { q with rest := q.rest.drop i }
theorem LC {full rest : List UInt8} (h : full.drop (full.length - rest.length) = rest) (hl : rest.length ≤ full.length) {i : Nat} (hi : i ≤ rest.length) : full.drop (full.length - (rest.drop i).length) = rest.drop i := by
 rw [List.length_drop]
 conv => rhs; rw [← h, List.drop_drop]
 congr 1; omega
theorem OY {full rest : List UInt8} (h : full.drop (full.length - rest.length) = rest) (hl : rest.length ≤ full.length) {i : Nat} {c : UInt8} (hc : rest[i]? = some c) : full[full.length - (rest.drop i).length]? = some c := by
 have hi := (List.getElem?_eq_some_iff.1 hc).1
 rw [← h, List.getElem?_drop] at hc
 rw [List.length_drop, show full.length - (rest.length - i) = full.length - rest.length + i by omega]; exact hc
theorem NT {b : List UInt8} {i acc : Nat} {c : UInt8} (h : NumInv b i acc) (hc : b[i]? = some c) (hlt : c.toNat < 128) {m : Nat} {r : List UInt8} (e : b = num m ++ r) : m = acc + 2 ^ (7 * i) * c.toNat ∧ b.drop (i + 1) = r := by
 obtain ⟨m', e1, e2, _⟩ := h.2.1 m r e
 rw [Hr hc] at e2
 rcases I9 e2 with ⟨_, e3, e4⟩ | ⟨h1, _⟩
 · exact ⟨by rw [e1, e3], e4⟩
 · omega
theorem QB {n0 p : Nat} {full : List UInt8} {q : QS} {w : World} (h : QSt n0 p full q w) : Calls prog 75 [ptr p].toArray w (Dq (R5 n0 p full q w) (fun _ _ => False)) := by
 refine AB 61 func75 V V V ?_
 refine Af (Aa (Ah V V (Ae (Af (Aa (Ah V V (Ae (Af (Af (Aa (Ah V V (Ae ?_))))))))))))
 have hl := h.le
 have hfl := h.fl
 have hsuf := h.suf
 refine A1 (AW (ι := Nat × Nat × World) (fun i => [(0, ptr p), (3, .int .u64 ((i.2.1 : Nat) : Int)), (4, .int .i64 ((i.1 : Nat) : Int))])
  (fun i w' => w' = i.2.2 ∧ i.1 ≤ 10 ∧ i.2.1 < 18446744073709551616 ∧ i.1 ≤ q.rest.length ∧ QSt n0 p full (q.at i.1) w' ∧ Fr (only p) w (only p) w' ∧ (0 < i.1 → q.bad = false) ∧ (i.1 ≤ 9 → NumInv q.rest i.1 i.2.1) ∧ (i.1 = 10 → ∀ m r, m < 18446744073709551616 → q.rest ≠ num m ++ r) ∧ Trk p w w') (fun i => 10 - i.1)
  (0, 0, w) ⟨V, V, V, trivial⟩ ⟨rfl, Nat.zero_le _, by show (0 : Nat) < 18446744073709551616; decide, Nat.zero_le _, h, Fr.refl _ _, fun h => absurd h (Nat.lt_irrefl 0), fun _ => NumInv.start _, fun h => absurd h (by show ¬ (0 : Nat) = 10; decide), Trk.refl⟩ ?_)
 rintro ⟨i, acc, _⟩ w1 ⟨rfl, hi, hacc, hir, h1, f1, hb0, hinv, hten, trk⟩
 simp only at hi hacc hir h1 f1 hb0 hinv hten trk ⊢
 obtain ⟨vb, vt, m⟩ := h1.mem
 obtain ⟨g, cap, rfl, hget⟩ := m.bts.val
 have hqb : (q.at i).bad = q.bad := rfl
 have hqn : (q.at i).nest = q.nest := rfl
 have hqr : (q.at i).rest = q.rest.drop i := rfl
 have B : ∀ {w' : World}, F0 w1 w' → Blk w' p [.slice g full.length cap, .int .i64 ((full.length - (q.rest.drop i).length : Nat) : Int), vt, .int .i64 (q.nest : Nat), .bool q.bad] 95 := fun f => kb f m.blk
 -- the reader's block with something wrong
 have bad : QSt n0 p full { q.at i with bad := true } (w1.setRow p [.slice g full.length cap, .int .i64 ((full.length - (q.rest.drop i).length : Nat) : Int), vt, .int .i64 (q.nest : Nat), .bool true].toArray) := h1.set (q' := { q.at i with bad := true }) m rfl h1.le h1.suf h1.sn
 have hstb : ∀ {w' : World}, F0 w1 w' → (storeVar 4 ⟨p, 4, none⟩ (.bool true)).run prog w' = .ok () (w'.setRow p [.slice g full.length cap, .int .i64 ((full.length - (q.rest.drop i).length : Nat) : Int), vt, .int .i64 (q.nest : Nat), .bool true].toArray) := fun f => Fg (B f) Ee rfl rfl (by simp) rfl
 refine Af (Af (Aa (Ac V V (Al V V (Bh (c := decide (i < 10)) (decide_eq_decide.2 (by omega))) V (Ae (AK V (fun ht => A_ fun a ha => Ad ?_) (fun hf => AQ fun a ha => Aq (Aq (A3 (Ad ?_))))))))))
 rotate_left
 · have hi10 : i = 10 := Nat.le_antisymm hi (Nat.le_of_not_lt (of_decide_eq_false hf))
   subst hi10
   have hqf := hb0 (by decide)
   refine A8 ha (Af (Aa (Ac V V (As V V (Ab V (BV _ _ _) V (An V V (hstb (Fr.refl _ _)) (Ae (Af (Aa (Ah V V (Ae (AA fun a ha => Au V ha V ?_))))))))))))
   refine ⟨0, { q.at 10 with bad := true }, rfl, by decide, bad, f1.trans (Fr.setRow _ V), rfl, rfl, fun hb => (by rw [hqf] at hb; cases hb), fun _ hb => (by cases hb), by rw [show ({ q.at 10 with bad := true } : QS).rest = q.rest.drop 10 from rfl, List.length_drop]; omega, fun _ => rfl, fun _ m r hm e => absurd e (hten V m r hm), trk.set m.blk⟩
 have hlt : i < 10 := of_decide_eq_true ht
 have hinv := hinv (by omega)
 refine A8 ha (Af (A1 ?_))
 refine Af (Af (C_ (F0 w1) CE (by kernel_rfl) (F0.drawn (Fr.refl _ _)) ?_))
 refine A6 V V (Cg V V (A5 V (fun w => BV w _ _) V (AM V (fun w h => A4 Ee ((B h).get V)) V (A6 V V ?_))))
 cases hq : q.bad with
 | true =>
  have hi0 : i = 0 := by
   rcases Nat.eq_zero_or_pos i with h0 | h0
   · exact h0
   · have := hb0 h0; rw [hq] at this; cases this
  subst hi0
  refine BI _ _ _ V (Bm fun w2 h2 => Ax V ?_)
  have h2' : QSt n0 p full q (w2.setRow p [.slice g full.length cap, .int .i64 ((full.length - (q.rest.drop 0).length : Nat) : Int), vt, .int .i64 (q.nest : Nat), .bool true].toArray) := by
   have := (h1.keep h2 (fun _ h => h.elim)).set (q' := q) (vb := .slice g full.length cap) (vt := vt) ⟨kb h2 m.blk, m.bts.keep0 h2, m.nb, AP m.row (fun k hk => Fr.blk h2 k (AT m.row hk) (fun h => h)), m.nt⟩ rfl h.le h.suf h.sn
   rw [hq] at this; exact this
  refine Af (Aa (Ac V V (As V V (Ab V (BV _ _ _) V (An V V (hstb h2) (Ae (Af (Aa (Ah V V (Ae (AA fun a ha => Ao (Aw (Ao (Ao (Aw (Ao (Au V ha V ?_)))))))))))))))))
  exact ⟨0, q, rfl, by decide, h2', (f1.trans (h2.drop (fun _ h => h.elim))).trans (Fr.setRow _ V), rfl, rfl, fun _ => ⟨rfl, rfl⟩, fun h => (by rw [hq] at h; cases h), Nat.le_refl _, fun _ => rfl, fun h => (by rw [hq] at h; cases h), (trk.keep h2).set (kb h2 m.blk)⟩
 | false =>
  rw [hq] at B
  refine Ak (j := 4) V V V (A6 V V (Ak (j := 4) V V V (Cg V V (Ak (j := 4) V V V (A5 V (fun w => ED w _ _) V (Ak (j := 4) V V V (AM V (fun w h => A4 ET ((B h).get V)) V ?_)))))))
  refine Ak (j := 4) V V V (A6 V V (Ak (j := 4) V V V (Cg V V (Ak (j := 4) V V V (A5 V (fun w => Lj w _ _) V (Ak (j := 4) V V V (AM V (fun w h => A4 CG ((B h).get V)) V ?_)))))))
  refine Ak (j := 4) V V V (GK V (fun w => Ay underlying22) V ?_)
  refine Ak (j := 4) V V V (CW V V (fun w => JJ (c := decide (q.rest.length ≤ i)) (decide_eq_decide.2 (by rw [List.length_drop]; omega))) V (BM V V V ?_))
  refine Bm fun w2 h2 => AK V (fun ht => ?_) (fun hf => A_ fun a ha => Ad ?_)
  · have hle : q.rest.length ≤ i := of_decide_eq_true ht
    have hin : i = q.rest.length := by omega
    have h2' : QSt n0 p full { q.at i with bad := true } (w2.setRow p [.slice g full.length cap, .int .i64 ((full.length - (q.rest.drop i).length : Nat) : Int), vt, .int .i64 (q.nest : Nat), .bool true].toArray) :=
     (h1.keep h2 (fun _ h => h.elim)).set (q' := { q.at i with bad := true }) (vb := .slice g full.length cap) (vt := vt) ⟨kb h2 m.blk, m.bts.keep0 h2, m.nb, AP m.row (fun k hk => Fr.blk h2 k (AT m.row hk) (fun h => h)), m.nt⟩ rfl h1.le h1.suf h1.sn
    refine Af (Aa (Ac V V (As V V (Ab V (BV _ _ _) V (An V V (hstb h2) (Ae (Af (Aa (Ah V V (Ae (AA fun a ha => Ao (Aw (Ao (Ao (Aw (Ao (Au V ha V ?_)))))))))))))))))
    refine ⟨0, { q.at i with bad := true }, rfl, by decide, h2', (f1.trans (h2.drop (fun _ h => h.elim))).trans (Fr.setRow _ V), rfl, rfl, fun h => (by rw [hq] at h; cases h), fun _ h => (by cases h), by rw [show ({ q.at i with bad := true } : QS).rest = q.rest.drop i from rfl, List.length_drop]; omega, fun _ => rfl, fun _ m r hm e => ?_, (trk.keep h2).set (kb h2 m.blk)⟩
    rw [hin] at hinv
    exact absurd e (hinv.none_end m r)
  have hil : i < q.rest.length := Nat.lt_of_not_le (of_decide_eq_false hf)
  obtain ⟨c, hc⟩ : ∃ c, q.rest[i]? = some c := ⟨_, List.getElem?_eq_getElem hil⟩
  have hfc := OY hsuf hl hc
  obtain ⟨b, o, rfl, hcell, hbl⟩ := hget _ c hfc
  have hc256 := c.toNat_lt
  have hjl := (List.getElem?_eq_some_iff.1 hfc).1
  have hia : ∀ w, (Instr.indexAt 22 (.slice (some ⟨b, o, none⟩) full.length cap) (.int .i64 ((full.length - (q.rest.drop i).length : Nat) : Int))).run prog w = .ok (.pointer (some ⟨b, o + (full.length - (q.rest.drop i).length), none⟩)) w := fun w => by
   have := Bp (P := prog) (w := w) (b := b) (o := o) (len := full.length) (cap := cap) (i := ((full.length - (q.rest.drop i).length : Nat) : Int)) underlying22 Kw (by omega) (by omega)
   rwa [Int.toNat_natCast, Nat.mul_one] at this
  have h2s : QSt n0 p full (q.at i) w2 := h1.keep h2 (fun _ h => h.elim)
  have m2 : Oy p full n0 (q.at i) w2 (.slice (some ⟨b, o, none⟩) full.length cap) vt := ⟨kb h2 m.blk, m.bts.keep0 h2, m.nb, AP m.row (fun k hk => Fr.blk h2 k (AT m.row hk) (fun h => h)), m.nt⟩
  have hcell2 : ∀ {w' : World}, F0 w2 w' → w'.cell? ⟨b, o + (full.length - (q.rest.drop i).length), none⟩ = some (bv c) := fun f => by
   rw [World.cell?_of_block (w := w1) (Fr.blk (h2.trans f) b hbl (fun h => h))]; exact hcell
  have B2 : ∀ {w' : World}, F0 w2 w' → Blk w' p [.slice (some ⟨b, o, none⟩) full.length cap, .int .i64 ((full.length - (q.rest.drop i).length : Nat) : Int), vt, .int .i64 (q.nest : Nat), .bool false] 95 := fun f => B (h2.trans f)
  refine A8 ha (Af (C_ (F0 w2) CE (by kernel_rfl) (F0.drawn (Fr.refl _ _)) ?_))
  refine A6 V V (Cg V V (A5 V (fun w => Lj w _ _) V (AM V (fun w h => A4 CG ((B2 h).get V)) V ?_)))
  refine A6 V V (Cg V V (A5 V (fun w => ED w _ _) V (AM V (fun w h => A4 ET ((B2 h).get V)) V ?_)))
  refine AC V V hia V (AM V (fun w h => A4 Kw (hcell2 h)) V (Kr (v := .int .u64 ((c.toNat : Nat) : Int)) V (fun w => ?_) V (KC V V (Bm fun w3 h3 => ?_))))
  · have := Bv (P := prog) (w := w) (k' := .u8) (n := ((c.toNat : Nat) : Int)) runUnderlying5 runUnderlying164
    rw [Bz (by omega) (by omega)] at this; exact this
  have h13 : F0 w1 w3 := h2.trans h3
  have h3s : QSt n0 p full (q.at i) w3 := h1.keep h13 (fun _ h => h.elim)
  have m3 : Oy p full n0 (q.at i) w3 (.slice (some ⟨b, o, none⟩) full.length cap) vt := ⟨kb h13 m.blk, m.bts.keep0 h13, m.nb, AP m.row (fun k hk => Fr.blk h13 k (AT m.row hk) (fun h => h)), m.nt⟩
  have hsucc : full.length - (q.rest.drop i).length + 1 = full.length - (q.rest.drop (i + 1)).length := by rw [List.length_drop, List.length_drop]; omega
  have hst4 : (storeVar 3 ⟨p, 1, none⟩ (.int .i64 ((full.length - (q.rest.drop (i + 1)).length : Nat) : Int))).run prog w3 = .ok () (w3.setRow p [.slice (some ⟨b, o, none⟩) full.length cap, .int .i64 ((full.length - (q.rest.drop (i + 1)).length : Nat) : Int), vt, .int .i64 (q.nest : Nat), .bool false].toArray) := Fg (B h13) ET rfl rfl (by simp) rfl
  have h4 : QSt n0 p full (q.at (i + 1)) (w3.setRow p [.slice (some ⟨b, o, none⟩) full.length cap, .int .i64 ((full.length - (q.rest.drop (i + 1)).length : Nat) : Int), vt, .int .i64 (q.nest : Nat), .bool false].toArray) := by
   have := h3s.set (q' := q.at (i + 1)) m3 rfl (by show (q.rest.drop (i + 1)).length ≤ _; rw [List.length_drop]; omega) (LC hsuf hl hil) h.sn
   rw [show (q.at (i + 1)).bad = false from hq] at this; exact this
  have f4 : Fr (only p) w (only p) (w3.setRow p [.slice (some ⟨b, o, none⟩) full.length cap, .int .i64 ((full.length - (q.rest.drop (i + 1)).length : Nat) : Int), vt, .int .i64 (q.nest : Nat), .bool false].toArray) := (f1.trans (h13.drop (fun _ h => h.elim))).trans (Fr.setRow _ rfl)
  refine Af (Aa (Ac V V (As V V (Ab V (ED _ _ _) V (Ai V (A4 ET ((B h13).get V)) V (Al (v := .int .i64 ((full.length - (q.rest.drop (i + 1)).length : Nat) : Int)) V V ?_ V ?_))))))
  · rw [← hsucc]; exact congrArg (fun v => Result.ok v w3) (AS (by omega))
  refine As V V (Ab V (ED _ _ _) V (An V V hst4 (Ae ?_)))
  have trk4 : Trk p w (w3.setRow p [.slice (some ⟨b, o, none⟩) full.length cap, .int .i64 ((full.length - (q.rest.drop (i + 1)).length : Nat) : Int), vt, .int .i64 (q.nest : Nat), .bool false].toArray) := (trk.keep h13).set (B h13)
  generalize w3.setRow p [.slice (some ⟨b, o, none⟩) full.length cap, .int .i64 ((full.length - (q.rest.drop (i + 1)).length : Nat) : Int), vt, .int .i64 (q.nest : Nat), .bool false].toArray = w4 at h4 f4 trk4 ⊢
  have hmul : ∀ w, (binOp .mul 3 (.int .i64 7) (.int .i64 (i : Int))).run prog w = .ok (.int .i64 ((7 * i : Nat) : Int)) w := fun w => by
   show Result.ok (Value.int .i64 (IntKind.i64.wrap (7 * (i : Int)))) w = _
   rw [B4 (by unfold Bu; omega)]; simp
  refine Af (Aa (Ac V V (Ac V V (Al V V (IW (d := 128) (by decide)) V (Ac V V (Al V V (hmul _) V ?_))))))
  refine AJ V (Bv runUnderlying3 runUnderlying130) V ?_
  rw [Bz (by omega) (by omega)]
  refine Al V V (L2 (d := 7 * i) V (by omega)) V (Al V V LJ V (Ah V V (Ae ?_)))
  have hnl : (acc + c.toNat % 128 * 2 ^ (7 * i) % 18446744073709551616) % 18446744073709551616 < 18446744073709551616 := Nat.mod_lt _ (by decide)
  -- where it does not outgrow 64 bits
  have hfit : (i = 9 → c.toNat ≤ 1) → (acc + c.toNat % 128 * 2 ^ (7 * i) % 18446744073709551616) % 18446744073709551616 = acc + 2 ^ (7 * i) * (c.toNat % 128) := by
   intro h9
   have hs : acc + 2 ^ (7 * i) * (c.toNat % 128) < 18446744073709551616 := by
    have h1 := hinv.1
    by_cases hi9' : i = 9
    · subst hi9'
      have := h9 rfl
      have : c.toNat % 128 ≤ 1 := by omega
      simp only [Nat.reduceMul, Nat.reducePow] at h1 ⊢
      omega
    · have h2 : 2 ^ (7 * i) ≤ 2 ^ 56 := Nat.pow_le_pow_right (by decide) (by omega)
      have h3 : 2 ^ (7 * i) * (c.toNat % 128) ≤ 2 ^ 56 * 127 := Nat.mul_le_mul h2 (by omega)
      simp only [Nat.reducePow, Nat.reduceMul] at h2 h3
      omega
   rw [Nat.mul_comm (c.toNat % 128), Nat.mod_eq_of_lt (by omega : 2 ^ (7 * i) * (c.toNat % 128) < 18446744073709551616), Nat.mod_eq_of_lt hs]
  generalize (acc + c.toNat % 128 * 2 ^ (7 * i) % 18446744073709551616) % 18446744073709551616 = n at hnl hfit ⊢
  refine Af (Aa (Ac V V (Al V V (Bh (c := decide (c.toNat < 128)) (decide_eq_decide.2 (by omega))) V (Ae (AK V (fun ht => ?_) (fun hf => A_ fun a ha => Az (Ad ?_)))))))
  · have hlt128 : c.toNat < 128 := of_decide_eq_true ht
    refine Af (Aa (Ac V V (Ah V V (Ae (AA fun a ha => Aw (Ao (Ao (Aw (Ao (Au V ha V ?_))))))))))
    have hdl : (q.at (i + 1)).rest.length + 1 ≤ q.rest.length := by show (q.rest.drop (i + 1)).length + 1 ≤ _; rw [List.length_drop]; omega
    refine ⟨n, q.at (i + 1), rfl, hnl, h4, f4, rfl, rfl, fun h => (by rw [hq] at h; cases h), fun _ _ => hdl, by omega, fun hb => (by rw [show (q.at (i + 1)).bad = false from hq] at hb; cases hb), fun _ mm r hm e => ?_, trk4⟩
    obtain ⟨e1, e2⟩ := NT hinv hc hlt128 e
    refine ⟨?_, hq, e2⟩
    rw [hfit (fun h9 => ?_), e1, Nat.mod_eq_of_lt hlt128]
    subst h9
    exact Nat.le_of_not_lt (fun hb => hinv.none_big hc hb mm r hm e)
  · have hge : 128 ≤ c.toNat := Nat.le_of_not_lt (of_decide_eq_false hf)
    refine A8 ha (Aa (Ac V V (Al V V V V (Ah V V (A2 fun a ha => Ad ?_)))))
    refine ⟨(i + 1, n, w4), ha.weak ⟨rfl, rfl, congrArg some (AS (by omega)), trivial⟩, ⟨rfl, hlt, hnl, hil, h4, f4, fun _ => rfl, fun h9 => ?_, fun h10 mm r hm e => ?_, trk4⟩, Nat.sub_lt_sub_left hlt (Nat.lt_succ_self i)⟩
    · have := hinv.step hc hge
      simp only
      rw [hfit (fun h => by simp only at h9; omega), show c.toNat % 128 = c.toNat - 128 by omega]; exact this
    · have hi9 : i = 9 := by simp only at h10; omega
      subst hi9
      exact hinv.none_big hc (by omega) mm r hm e
end Go.Sx
namespace Go.Sx
open Go.Proofs Go.Proofs.Tryz
def QGood (n0 p : Nat) (full : List UInt8) (f : Ty) (q : QS) (w : World) (v : Value) (w' : World) : Prop :=
 ∃ t q' cs, v = CU f cs ∧ Rep w' (fun b => w.heap.size ≤ b) t f cs ∧ QSt n0 p full q' w' ∧ Fr (only p) w (only p) w' ∧ q'.nest = q.nest ∧ q'.tab = q.tab ∧ Ik f q q' t ∧ Fits f q q' t
def Cq (n0 p : Nat) (full : List UInt8) (g : FuncId) (f : Ty) (k : Nat) : Prop :=
 ∀ q w, QSt n0 p full q w → q.nest = k → Calls prog g [ptr p].toArray w (Dq (QGood n0 p full f q w) (fun _ _ => False))
section
variable {n0 p k : Nat} {full : List UInt8} {q q' : QS} {w : World}
theorem II {f : Ty} {t : T} (hz : zw f = 1) (hr : 1 ≤ IX f) (hw : t.wt ≤ 3009) (h1 : q.bad = true → q'.bad = true ∧ q'.rest = q.rest) (h2 : q.bad = false → q'.bad = false → q'.rest.length + 1 ≤ q.rest.length) (h3 : q'.rest.length ≤ q.rest.length) : Ik f q q' t :=
 ⟨fun h => ⟨(h1 h).1, by rw [(h1 h).2], by rw [hz]; omega⟩, fun h h' => by have := h2 h h'; omega, fun _ _ => by unfold IA; omega⟩
theorem J8 {s s' : RS} {m : Nat} (hs : IT s q) (he : s.eat m = some s') (ht : q'.tab = q.tab) (hn : q'.nest = q.nest) (hb : q'.bad = false) (hr : q'.rest = s'.b) : IT s' q' := by
 obtain ⟨_, h2⟩ := RS.eat_iff.1 he
 obtain ⟨_, _, k3, k4⟩ := hs
 refine ⟨hb, hr, ?_, ?_⟩
 · rw [ht, k3, h2]
 · rw [hn, k4, h2]
theorem Ev {s s' : RS} {m : Nat} (hs : IT s q) (he : s.eat m = some s') : q.rest = num m ++ s'.b := by rw [hs.2.1]; exact (RS.eat_iff.1 he).1
theorem PO (h : QSt n0 p full q w) : Calls prog 85 [ptr p].toArray w (Dq (fun v w' => ∃ b q', v = .bool b ∧ QSt n0 p full q' w' ∧ Fr (only p) w (only p) w' ∧ q'.nest = q.nest ∧ q'.tab = q.tab ∧ Ik .bool q q' (.bool b) ∧ Fits .bool q q' (.bool b) ∧ (q'.bad = true → b = false)) (fun _ _ => False)) := by
 refine AB 6 func85 V V V ?_
 refine Af (Aa (Ah V V (Ae (Af (Aa (Ac V V (Aj call75 V V (QB h) ?_ Be)))))))
 rintro _ w1 ⟨n, q1, rfl, hn, h1, f1, htb, hne, hb, hg, hle, hz, hcan, trk⟩
 refine Al V V (Ej (c := decide (n = 1)) (decide_eq_decide.2 (by omega))) V (Ah V V (Ae (AA fun a ha => Au V ha V ?_)))
 refine ⟨decide (n = 1), q1, rfl, h1, f1, hne, htb, II V (by decide) (by simp [T.wt]) (fun h => ⟨by rw [(hb h).2]; exact h, by rw [(hb h).2]⟩) hg hle, fun s hs u s' hu => ?_, fun h => by rw [hz h]; rfl⟩
 cases u <;> simp only [CK] at hu <;> try cases hu
 rename_i b
 obtain ⟨rfl, e2, e3⟩ := hcan hs.1 b.toNat s'.b (by cases b <;> decide) (Ev hs hu)
 exact ⟨by cases b <;> rfl, J8 hs hu htb hne e2 e3⟩
theorem IS : Cq n0 p full 85 .bool k := by
 intro q w h hk
 refine (PO h).mono ?_
 intro e w' he
 cases e with
 | returned v =>
  obtain ⟨b, q', rfl, a1, a2, a3, a4, a5, a6, _⟩ := he
  exact ⟨.bool b, q', [.bool b], rfl, by simp only [Rep], a1, a2, a3, a4, a5, a6⟩
 | panicked ch => exact he.elim
 | outgrown => exact he.elim
theorem NO {w : World} {n : Nat} (h : n < 9223372036854775808) : (Op.unary .neg (.int .i64 (n : Int))).run prog w = .ok (.int .i64 (-(n : Int))) w := LS (by unfold Bu; omega)
theorem J4 : Cq n0 p full 86 .int k := by
 intro q w h hk
 refine AB 17 func86 V V V ?_
 refine Af (Aa (Ah V V (Ae (Af (Aa (Ac V V (Aj call75 V V (QB h) ?_ Be)))))))
 rintro _ w1 ⟨n, q1, rfl, hn, h1, f1, htb, hne, hb, hg, hle, hz, hcan, trk⟩
 obtain ⟨hzz, hii⟩ := KJ hn
 have good : QGood n0 p full .int q w (.int .i64 (EP n)) w1 := by
  refine ⟨.int (EP n), q1, [.int .i64 (EP n)], rfl, by simp only [Rep]; exact ⟨trivial, hii⟩, h1, f1, hne, htb, II V (by decide) (by simp [T.wt]) (fun h => ⟨by rw [(hb h).2]; exact h, by rw [(hb h).2]⟩) hg hle, fun s hs u s' hu => ?_⟩
  cases u <;> simp only [CK] at hu <;> try cases hu
  rename_i z
  split at hu
  · rename_i hzi
    obtain ⟨rfl, e2, e3⟩ := hcan hs.1 (GU z) s'.b (Eb z) (Ev hs hu)
    exact ⟨by rw [MZ hii ((Jd z).2 hzi) hzz], J8 hs hu htb hne e2 e3⟩
  · cases hu
 refine Ah V V (Ae (Af (Af (Aa (Ac V V (Al V V (IW (d := 2) (by decide)) V (Al V V (Ej (c := decide (n % 2 = 1)) (decide_eq_decide.2 (by omega))) V (Ae (AK V (fun ht => ?_) (fun hf => A_ fun a ha => Ad ?_))))))))))
 · have h1' : n % 2 = 1 := of_decide_eq_true ht
   have hu : EP n = -((n / 2 : Nat) : Int) - 1 := by unfold EP; rw [if_neg (by omega)]
   rw [hu] at good
   refine Af (Aa (Ac V V (Al V V (Ja (d := 2) (by decide) hn) V (AJ V (Bv runUnderlying164 runUnderlying3) V ?_))))
   rw [B4 (by unfold Bu; omega)]
   exact JI V (NO (by omega)) V (Al V V (EH (by unfold Bu; omega)) V (Ah V V (Ae (AA fun a ha => Ao (Au V ha V good)))))
 · have h0' : n % 2 = 0 := by have := of_decide_eq_false hf; omega
   have hu : EP n = ((n / 2 : Nat) : Int) := by unfold EP; rw [if_pos h0']
   rw [hu] at good
   refine A8 ha (Af (Aa (Ac V V (Al V V (Ja (d := 2) (by decide) hn) V (AJ V (Bv runUnderlying164 runUnderlying3) V ?_)))))
   rw [B4 (by unfold Bu; omega)]
   exact Ah V V (Ae (AA fun a ha => Au V ha V good))
theorem QSt.wrong (h : QSt n0 p full q w) : ∃ w', (storeVar 4 ⟨p, 4, none⟩ (.bool true)).run prog w = .ok () w' ∧ QSt n0 p full { q with bad := true } w' ∧ Fr (only p) w (only p) w' ∧ Trk p w w' := by
 obtain ⟨vb, vt, m⟩ := h.mem
 exact ⟨_, Fg m.blk Ee V V (by simp) V, h.set (q' := { q with bad := true }) m V h.le h.suf h.sn, Fr.setRow _ V, Trk.refl.set m.blk⟩
theorem Fe : Cq n0 p full 77 .str k := by
 intro q w h hk
 refine AB 24 func77 V V V ?_
 refine Af (Aa (Ah V V (Ae (Af (Aa (Ac V V (Aj call75 V V (QB h) ?_ Be)))))))
 rintro _ w1 ⟨n, q1, rfl, hn, h1, f1, htb, hne, hb, hg, hle, hz, hcan, trk⟩
 obtain ⟨vb, vt, m⟩ := h1.mem
 obtain ⟨gt, capt, rfl, hget⟩ := Dr m.row
 have hst := h1.st
 refine Ah V V (Ae (Af (Af (Aa (Ac V V (Ac V V (As V V (Ab V (D5 _ _ _) V (Ai V (A4 D_ (m.blk.get V)) V (AE V (Ay underlying44) V (AJ V (Bv runUnderlying3 runUnderlying164) V ?_)))))))))))
 rw [Bz (by omega) (by omega)]
 refine Al V V (JJ (c := decide (q1.tab.length ≤ n)) (decide_eq_decide.2 (by omega))) V (Ae (AK V (fun ht => ?_) (fun hf => A_ fun a ha => Ad ?_)))
 · have hle' : q1.tab.length ≤ n := of_decide_eq_true ht
   obtain ⟨w2, hs2, h2, f2, _⟩ := h1.wrong
   refine Af (Aa (Ac V V (As V V (Ab V (BV _ _ _) V (An V V hs2 (Ae (Af (Aa (Ah V V (Ae (AA fun a ha => Ao (Au V ha V ?_))))))))))))
   refine ⟨.str ⟨#[]⟩, { q1 with bad := true }, [.string ⟨#[]⟩], rfl, by simp only [Rep]; exact ⟨trivial, Nat.zero_le _⟩, h2, f1.trans f2, hne, htb, II V (by decide) (by simp only [T.wt]; show 0 + 1 ≤ 3009; omega) (fun h => ⟨rfl, by rw [(hb h).2]⟩) (fun _ h => by cases h) hle, fun s hs u s' hu => ?_⟩
   cases u <;> simp only [CK] at hu <;> try cases hu
   rename_i x
   cases hx : s.tab.findIdx? (fun z => decide (z = x)) with
   | none => rw [hx] at hu; cases hu
   | some j =>
    rw [hx] at hu
    simp only at hu
    split at hu
    · simp only [Option.map_eq_some_iff] at hu
      obtain ⟨s0, he, rfl⟩ := hu
      have hjl := (Ex hx).1
      rw [← hs.2.2.1] at hjl
      obtain ⟨rfl, _, _⟩ := hcan hs.1 j s0.b (by have := h.st; omega) (Ev hs he)
      have : q1.tab = q.tab := htb
      rw [this] at hle'; omega
    · cases hu
 · have hlt : n < q1.tab.length := Nat.lt_of_not_le (of_decide_eq_false hf)
   obtain ⟨x, hx⟩ : ∃ x, q1.tab[n]? = some x := ⟨_, List.getElem?_eq_getElem hlt⟩
   obtain ⟨b, rfl, hcell, hob⟩ := hget n (.string x) (by simp [hx])
   have hxs := h1.tabs x (List.mem_of_getElem? hx)
   refine A8 ha (Af (Aa (Ac V V (As V V (Ab V (D5 _ _ _) V (Ai V (A4 D_ (m.blk.get V)) V (Ac V V ?_)))))))
   refine A0 V V (Hl underlying44 MM hlt) V (Ai V (A4 MM (by rw [Nat.zero_add, Nat.mul_one]; exact hcell)) V (Ah V V (Ae (AA fun a ha => Au V ha V ?_))))
   refine ⟨.str x, q1, [.string x], rfl, by simp only [Rep]; exact ⟨trivial, by simp only [maxLen]; omega⟩, h1, f1, hne, htb, II V (by decide) (by simp only [T.wt]; omega) (fun h => ⟨by rw [(hb h).2]; exact h, by rw [(hb h).2]⟩) hg hle, fun s hs u s' hu => ?_⟩
   cases u <;> simp only [CK] at hu <;> try cases hu
   rename_i y
   cases hy : s.tab.findIdx? (fun z => decide (z = y)) with
   | none => rw [hy] at hu; cases hu
   | some j =>
    rw [hy] at hu
    simp only at hu
    split at hu
    · simp only [Option.map_eq_some_iff] at hu
      obtain ⟨s0, he, rfl⟩ := hu
      obtain ⟨hjl, hj⟩ := Ex hy
      rw [← hs.2.2.1] at hjl hj
      obtain ⟨rfl, e2, e3⟩ := hcan hs.1 j s0.b (by have := h.st; omega) (Ev hs he)
      rw [htb] at hx
      have := hx.symm.trans hj
      cases this
      have hF := J8 hs he htb hne e2 e3
      exact ⟨rfl, hF.1, hF.2.1, hF.2.2.1, hF.2.2.2⟩
    · cases hu
def PY (n0 p : Nat) (full : List UInt8) (q : QS) (w : World) (v : Value) (w' : World) : Prop :=
 ∃ n q', v = .int .i64 ((n : Nat) : Int) ∧ n ≤ q'.rest.length ∧ QSt n0 p full q' w' ∧ Fr (only p) w (only p) w' ∧ q'.tab = q.tab ∧ q'.nest = q.nest ∧ (q.bad = true → q' = q) ∧ (q.bad = false → q'.bad = false → q'.rest.length + 1 ≤ q.rest.length) ∧ q'.rest.length ≤ q.rest.length ∧ (q'.bad = true → n = 0) ∧
  (∀ s, IT s q → ∀ m s1, s.eat m = some s1 → m ≤ s1.b.length → m = n ∧ IT s1 q') ∧ Trk p w w'
theorem JX (h : QSt n0 p full q w) : Calls prog 33 [ptr p].toArray w (Dq (PY n0 p full q w) (fun _ _ => False)) := by
 refine AB 24 func33 V V V ?_
 refine Af (Aa (Ah V V (Ae (Af (Aa (Ac V V (Aj call75 V V (QB h) ?_ Be)))))))
 rintro _ w1 ⟨n, q1, rfl, hn, h1, f1, htb, hne, hb, hg, hle, hz, hcan, trk⟩
 obtain ⟨vb, vt, m⟩ := h1.mem
 obtain ⟨g, cap, rfl, hget⟩ := m.bts.val
 have hfl := h1.fl
 have hrl := h1.le
 have B : ∀ {w' : World}, F0 w1 w' → Blk w' p [.slice g full.length cap, .int .i64 ((full.length - q1.rest.length : Nat) : Int), vt, .int .i64 (q1.nest : Nat), .bool q1.bad] 95 := fun f => kb f m.blk
 refine Ah V V (Ae (Af (Af (C_ (F0 w1) CE (by kernel_rfl) (F0.drawn (Fr.refl _ _)) ?_))))
 refine A6 V V (A6 V V (Cg V V (A5 V (fun w => Lj w _ _) V (AM V (fun w h => A4 CG ((B h).get V)) V (GK V (fun w => Ay underlying22) V ?_)))))
 refine A6 V V (Cg V V (A5 V (fun w => ED w _ _) V (AM V (fun w h => A4 ET ((B h).get V)) V ?_)))
 refine CW (v := .int .i64 ((q1.rest.length : Nat) : Int)) V V (fun w => ?_) V (Kr (v := .int .u64 ((q1.rest.length : Nat) : Int)) V (fun w => ?_) V (CW V V (fun w => Cu (c := decide (q1.rest.length < n)) (decide_eq_decide.2 (by omega))) V (Bm fun w2 h2 => AK V (fun ht => ?_) (fun hf => A_ fun a ha => Ad ?_))))
 · have := EH (w := w) (t := 3) (a := (full.length : Nat)) (b := ((full.length - q1.rest.length : Nat) : Int)) (by unfold Bu; omega)
   rwa [show ((full.length : Nat) : Int) - ((full.length - q1.rest.length : Nat) : Int) = ((q1.rest.length : Nat) : Int) by omega] at this
 · have := Bv (P := prog) (w := w) (k' := .i64) (n := ((q1.rest.length : Nat) : Int)) runUnderlying3 runUnderlying164
   rw [Bz (by omega) (by omega)] at this; exact this
 · have hlt : q1.rest.length < n := of_decide_eq_true ht
   obtain ⟨w3, hs3, h3, f3, trk3⟩ := (h1.keep h2 (fun _ h => h.elim)).wrong
   refine Af (Aa (Ac V V (As V V (Ab V (BV _ _ _) V (An V V hs3 (Ae (Af (Aa (Ah V V (Ae (AA fun a ha => Ao (Au V ha V ?_))))))))))))
   have hq1 : q.bad = false := by
    cases hq : q.bad with
    | false => rfl
    | true => have := (hb hq).1; omega
   refine ⟨0, { q1 with bad := true }, rfl, Nat.zero_le _, h3, (f1.trans (h2.drop (fun _ h => h.elim))).trans f3, htb, hne, fun h => (by rw [hq1] at h; cases h), fun _ h => (by cases h), hle, fun _ => rfl, fun s hs mm s1 he hm => ?_, (trk.keep h2).trans trk3⟩
   have hml : mm < 18446744073709551616 := by
    have := congrArg List.length (Ev hs he)
    rw [List.length_append] at this
    have := h.le
    omega
   obtain ⟨rfl, _, e3⟩ := hcan hs.1 mm s1.b hml (Ev hs he)
   rw [e3] at hlt; omega
 · have hnl : n ≤ q1.rest.length := Nat.le_of_not_lt (of_decide_eq_false hf)
   refine A8 ha (Af (Aa (Ac V V (AJ V (Bv runUnderlying164 runUnderlying3) V ?_))))
   rw [B4 (by unfold Bu; omega)]
   refine Ah V V (Ae (AA fun a ha => Au V ha V ?_))
   refine ⟨n, q1, rfl, hnl, h1.keep h2 (fun _ h => h.elim), f1.trans (h2.drop (fun _ h => h.elim)), htb, hne, fun h => (hb h).2, hg, hle, hz, fun s hs mm s1 he hm => ?_, trk.keep h2⟩
   have hml : mm < 18446744073709551616 := by
    have := congrArg List.length (Ev hs he)
    rw [List.length_append] at this
    have := h.le
    omega
   obtain ⟨rfl, e2, e3⟩ := hcan hs.1 mm s1.b hml (Ev hs he)
   exact ⟨rfl, J8 hs he htb hne e2 e3⟩
def QS.dn (q : QS) : QS := { q with nest := q.nest + 1, bad := q.bad || decide (1000 < q.nest + 1) }
theorem Rz (h : QSt n0 p full q w) (hn : q.nest ≤ 1000) : Calls prog 76 [ptr p].toArray w (Dq (fun v w' => v = .bool (!q.dn.bad) ∧ QSt n0 p full q.dn w' ∧ Fr (only p) w (only p) w') (fun _ _ => False)) := by
 obtain ⟨vb, vt, m⟩ := h.mem
 refine AB 29 func76 V V V ?_
 have hst1 : (storeVar 3 ⟨p, 3, none⟩ (.int .i64 ((q.nest + 1 : Nat) : Int))).run prog w = .ok () (w.setRow p [vb, .int .i64 ((full.length - q.rest.length : Nat) : Int), vt, .int .i64 ((q.nest + 1 : Nat) : Int), .bool q.bad].toArray) := Fg m.blk ET rfl rfl (by simp) rfl
 have h1 := h.set (q' := { q with nest := q.nest + 1 }) m rfl h.le h.suf (by show q.nest + 1 ≤ 1001; omega)
 refine Af (Aa (Ah V V (Ae (Af (Aa (Ac V V (As V V (Ab V (DS _ _ _) V (Ai V (A4 ET (m.blk.get V)) V (Al (v := .int .i64 ((q.nest + 1 : Nat) : Int)) V V ?_ V ?_))))))))) )
 · exact congrArg (fun v => Result.ok v w) (AS (by omega))
 refine As V V (Ab V (DS _ _ _) V (An V V hst1 (Ae ?_)))
 have f1 : Fr (only p) w (only p) (w.setRow p [vb, .int .i64 ((full.length - q.rest.length : Nat) : Int), vt, .int .i64 ((q.nest + 1 : Nat) : Int), .bool q.bad].toArray) := Fr.setRow _ rfl
 have m1b : Blk (w.setRow p [vb, .int .i64 ((full.length - q.rest.length : Nat) : Int), vt, .int .i64 ((q.nest + 1 : Nat) : Int), .bool q.bad].toArray) p [vb, .int .i64 ((full.length - q.rest.length : Nat) : Int), vt, .int .i64 ((q.nest + 1 : Nat) : Int), .bool q.bad] 95 := m.blk.setRow _
 have h1' : QSt n0 p full { q with nest := q.nest + 1 } (w.setRow p [vb, .int .i64 ((full.length - q.rest.length : Nat) : Int), vt, .int .i64 ((q.nest + 1 : Nat) : Int), .bool q.bad].toArray) := h1
 generalize w.setRow p [vb, .int .i64 ((full.length - q.rest.length : Nat) : Int), vt, .int .i64 ((q.nest + 1 : Nat) : Int), .bool q.bad].toArray = w1 at f1 m1b h1' ⊢
 clear h1 hst1
 obtain ⟨vb1, vt1, m1⟩ := h1'.mem
 have hst2 : ∀ b : Bool, (storeVar 4 ⟨p, 4, none⟩ (.bool b)).run prog w1 = .ok () (w1.setRow p [vb1, .int .i64 ((full.length - q.rest.length : Nat) : Int), vt1, .int .i64 ((q.nest + 1 : Nat) : Int), .bool b].toArray) := fun b => Fg m1.blk Ee rfl rfl (by simp) rfl
 have h2 : QSt n0 p full q.dn (w1.setRow p [vb1, .int .i64 ((full.length - q.rest.length : Nat) : Int), vt1, .int .i64 ((q.nest + 1 : Nat) : Int), .bool q.dn.bad].toArray) := h1'.set (q' := q.dn) m1 rfl h.le h.suf (by show q.nest + 1 ≤ 1001; omega)
 have f2 : Fr (only p) w1 (only p) (w1.setRow p [vb1, .int .i64 ((full.length - q.rest.length : Nat) : Int), vt1, .int .i64 ((q.nest + 1 : Nat) : Int), .bool q.dn.bad].toArray) := Fr.setRow _ rfl
 have b2 : Blk (w1.setRow p [vb1, .int .i64 ((full.length - q.rest.length : Nat) : Int), vt1, .int .i64 ((q.nest + 1 : Nat) : Int), .bool q.dn.bad].toArray) p [vb1, .int .i64 ((full.length - q.rest.length : Nat) : Int), vt1, .int .i64 ((q.nest + 1 : Nat) : Int), .bool q.dn.bad] 95 := m1.blk.setRow _
 have hst3 := hst2 q.dn.bad
 have hd : q.dn.bad = (q.bad || decide (1000 < q.nest + 1)) := rfl
 generalize w1.setRow p [vb1, .int .i64 ((full.length - q.rest.length : Nat) : Int), vt1, .int .i64 ((q.nest + 1 : Nat) : Int), .bool q.dn.bad].toArray = w2 at h2 f2 b2 hst3
 have e4 : w1.cell? ⟨p, 4, none⟩ = some (.bool q.bad) := m1.blk.get rfl
 have e3 : w1.cell? ⟨p, 3, none⟩ = some (.int .i64 ((q.nest + 1 : Nat) : Int)) := m1.blk.get rfl
 have e5 : w2.cell? ⟨p, 4, none⟩ = some (.bool q.dn.bad) := b2.get rfl
 cases hq : q.bad with
 | true =>
  have hdt : q.dn.bad = true := by rw [hd, hq]; rfl
  rw [hq] at e4
  rw [hdt] at hst3 e5 ⊢
  refine Af (Aa (Ac V V (Ac V V (As V V (Ab V (BV _ _ _) V (Ai V (A4 Ee e4) V (Ac V V ?_)))))))
  refine B6 (j := 5) V V V V V (B6 (j := 5) V V V V V (B6 (j := 5) V V V V V (B6 (j := 5) V V V V V (B6 (j := 5) V V V V V (AI V V V (As V V (Ab V (BV _ _ _) V (An V V hst3 (Ae ?_)))))))))
  exact Af (Aa (Ac V V (As V V (Ab V (BV _ _ _) V (Ai V (A4 Ee e5) V (Bt V V (Ah V V (Ae (AA fun a ha => Au V ha V ⟨rfl, h2, f1.trans f2⟩)))))))))
 | false =>
  have hdt : q.dn.bad = decide (1000 < q.nest + 1) := by rw [hd, hq]; rfl
  rw [hq] at e4
  rw [hdt] at hst3 e5 ⊢
  refine Af (Aa (Ac V V (Ac V V (As V V (Ab V (BV _ _ _) V (Ai V (A4 Ee e4) V (Ac V V ?_)))))))
  refine Ag (j := 5) V V V (Ac V V (Ag (j := 5) V V V (As V V (Ag (j := 5) V V V (Ab V (DS _ _ _) V (Ag (j := 5) V V V (Ai V (A4 ET e3) V ?_)))))))
  refine Ag (j := 5) V V V (Al V V (Cu (c := decide (1000 < q.nest + 1)) (decide_eq_decide.2 (by omega))) V (AI V V V (As V V (Ab V (BV _ _ _) V (An V V hst3 (Ae ?_))))))
  exact Af (Aa (Ac V V (As V V (Ab V (BV _ _ _) V (Ai V (A4 Ee e5) V (Bt V V (Ah V V (Ae (AA fun a ha => Au V ha V ⟨rfl, h2, f1.trans f2⟩)))))))))
end
end Go.Sx
