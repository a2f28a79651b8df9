import Derived.Test.YtdldhfocpandoaaGreatStX
set_option maxHeartbeats 8000000
set_option maxRecDepth 8000
namespace Go.Sx
open Go.Proofs Go.Proofs.Tryz
theorem Rt {n0 p : Nat} {full : List UInt8} : ∀ j k, k ≤ 1000 → 1000 - k ≤ j → Cq n0 p full 83 (.st .expr) k ∧ Cq n0 p full 198 (.st .instr) k ∧ Cq n0 p full 34 (.st .sheet) k := by
 intro j
 induction j with
 | zero =>
  intro k hk hj
  have no : ¬ k + 1 ≤ 1000 := by omega
  exact ⟨RR hk (fun h => absurd h no), PI hk (fun h => absurd h no) (fun h => absurd h no), RN hk (fun h => absurd h no) (fun h => absurd h no) (fun h => absurd h no)⟩
 | succ j ih =>
  intro k hk hj
  have go := fun h : k + 1 ≤ 1000 => ih (k + 1) h (by omega)
  exact ⟨RR hk (fun h => (go h).1), PI hk (fun h => (go h).1) (fun h => (go h).2.1), RN hk (fun h => (go h).1) (fun h => (go h).2.1) (fun h => (go h).2.2)⟩
theorem Ra {n0 p : Nat} {full : List UInt8} : Cq n0 p full 34 (.st .sheet) 0 := (Rt 1000 0 (by omega) (by omega)).2.2
theorem MG {P : Program} {fn : Func} {p q : Tmp} {t : TypeId} (h : fn.results = #[.cell p t, .tmp q]) {tmps : Array Value} {w : World} {b : Nat} {x y : Value}
 (h1 : tmps[p]? = some (ptr b)) (h2 : tmps[q]? = some y) (hx : (loadVar t ⟨b, 0, none⟩).run P w = .ok x w) :
 (results fn tmps).run P w = .ok (.tuple #[x, y]) w := by
 simp [results, h, Array.getD_eq_getD_getElem?, h1, h2, ptr, asAddr, hx]
theorem MN {P : Program} {fn : Func} {R : Ending → World → Prop} {a : Act} {n : Nat} {m : Env} {w : World} {p q : Tmp} {t : TypeId} {b : Nat} {x y : Value} (h : fn.results = #[.cell p t, .tmp q]) (ha : Loc n [] m a) (hp : m.get p = some (ptr b)) (hq : m.get q = some y)
 (hx : (loadVar t ⟨b, 0, none⟩).run P w = .ok x w) (hR : R (.returned (.tuple #[x, y])) w) : bodyPost P fn R .ret a w :=
 bodyPost_ret (MG h (ha.slot p _ hp) (ha.slot q _ hq) hx) ha.defers hR
theorem FX {P : Program} {ops : Array Oper} {Q : Exit → Act → World → Prop} {n : Nat} {ds : List Deferred} {m : Env} {w : World} {fuel : Nat} {listed : Array Bool} {i d : Nat} {ty : TypeId} {pos : String} {aft : Array Edge}
 {t : TypeId} {x lo hi : Operand} {vx v vl vh : Value} (hi' : ops[i]? = some ⟨some d, .slice t x (some lo) (some hi) none, ty, pos, aft, none⟩) (hok : OL ops listed i = true) (hQ : Blind Q) (hx : ev m x = some vx)
 (hl : ev m lo = some vl) (hh : ev m hi = some vh) (hr : ∀ w, (Instr.sliceAt t vx (some vl) (some vh) none).run P w = .ok v w) (hb : Nat.blt d n = true)
 (h : AL P ops Q fuel (listed.setIfInBounds i true) n ds ((d, v) :: m) w) : AL P ops Q (fuel + 1) listed n ds m w :=
 G5 hi' hok hQ rfl rfl hb (fun a w ha => by simp [execOp, ha.eval hx, ha.eval hl, ha.eval hh, hr w]) h
theorem QSt.rebase {n0 p : Nat} {full : List UInt8} {q : QS} {w : World} (h : QSt n0 p full q w) : QSt w.heap.size p full q w := by
 obtain ⟨vb, vt, m⟩ := h.mem
 have := h.ln
 exact ⟨Nat.lt_of_lt_of_le h.lp h.ln, Nat.le_refl _, ⟨vb, vt, m.blk, m.bts, fun k hk => ⟨Nat.lt_of_lt_of_le (m.nb k hk).1 h.ln, (m.nb k hk).2⟩, m.row, fun k hk => ⟨Nat.lt_of_lt_of_le (m.nt k hk).1 h.ln, (m.nt k hk).2⟩⟩, h.le, h.suf, h.fl, h.st, h.tabs, h.sn⟩
def Mo (b : List UInt8) (n i : Nat) (q : QS) : Prop := ∀ tab r, b = num tab.length ++ Bi tab ++ r → tab.length = n ∧ q.bad = false ∧ q.tab = tab.take i ∧ q.rest = Bi (tab.drop i) ++ r
theorem OW (l : List ByteArray) : l.length ≤ (Bi l).length := by
 induction l with
 | nil => simp [Bi]
 | cons x l ih =>
  have := DT x.size
  simp only [Bi, D3, List.length_append, List.length_cons]; omega
theorem Nw {b : List UInt8} {q q1 : QS} {n : Nat} (hq : q.bad = false) (hr : q.rest = b) (ht : q.tab = []) (ht1 : q1.tab = q.tab) (hcan : ∀ s, IT s q → ∀ m s1, s.eat m = some s1 → m ≤ s1.b.length → m = n ∧ IT s1 q1) : Mo b n 0 q1 := by
 intro tab r e
 have he : (RS.mk q.rest q.tab 0 q.nest).eat tab.length = some ⟨Bi tab ++ r, q.tab, 0, q.nest⟩ := by
  rw [hr, e, List.append_assoc]; exact ES
 have hl := OW tab
 obtain ⟨h1, h2⟩ := hcan ⟨q.rest, q.tab, 0, q.nest⟩ ⟨hq, rfl, rfl, rfl⟩ tab.length _ he (by simp only [List.length_append]; omega)
 exact ⟨h1, h2.1, by rw [ht1, ht]; simp, by rw [h2.2.1]; simp⟩
theorem LY {b : List UInt8} {q q1 : QS} {n i m : Nat} (h : Mo b n i q) (hi : i < n) (ht : q1.tab = q.tab) (hcan : ∀ s, IT s q → ∀ m' s1, s.eat m' = some s1 → m' ≤ s1.b.length → m' = m ∧ IT s1 q1) :
 ∀ tab r, b = num tab.length ++ Bi tab ++ r → q1.bad = false ∧ ∃ x, tab[i]? = some x ∧ x.size = m ∧ q1.rest = x.data.toList ++ (Bi (tab.drop (i + 1)) ++ r) := by
 intro tab r e
 obtain ⟨h1, h2, h3, h4⟩ := h tab r e
 obtain ⟨x, hx⟩ : ∃ x, tab[i]? = some x := ⟨_, List.getElem?_eq_getElem (by omega)⟩
 obtain ⟨hlt, hg⟩ := List.getElem?_eq_some_iff.1 hx
 have hd : tab.drop i = x :: tab.drop (i + 1) := by rw [List.drop_eq_getElem_cons hlt, hg]
 have he : (RS.mk q.rest q.tab 0 q.nest).eat x.size = some ⟨x.data.toList ++ (Bi (tab.drop (i + 1)) ++ r), q.tab, 0, q.nest⟩ := by
  rw [h4, hd]
  simp only [Bi, D3, List.append_assoc]
  exact ES
 have hxl : x.data.toList.length = x.size := Array.length_toList
 obtain ⟨k1, k2⟩ := hcan ⟨q.rest, q.tab, 0, q.nest⟩ ⟨h2, rfl, rfl, rfl⟩ x.size _ he (by simp only [List.length_append]; omega)
 exact ⟨k2.1, x, hx, k1, k2.2.1⟩
def QS.put (q : QS) (m : Nat) : QS := { q with tab := q.tab ++ [⟨(q.rest.take m).toArray⟩], rest := q.rest.drop m }
theorem OT {b : List UInt8} {q q1 : QS} {n i m : Nat} (h : Mo b n i q) (hi : i < n) (ht : q1.tab = q.tab) (hcan : ∀ s, IT s q → ∀ m' s1, s.eat m' = some s1 → m' ≤ s1.b.length → m' = m ∧ IT s1 q1) : Mo b n (i + 1) (q1.put m) := by
 intro tab r e
 obtain ⟨k1, x, hx, k2, k3⟩ := LY h hi ht hcan tab r e
 obtain ⟨h1, h2, h3, h4⟩ := h tab r e
 have hxl : x.data.toList.length = m := by rw [← k2]; exact Array.length_toList
 refine ⟨h1, k1, ?_, ?_⟩
 · show q1.tab ++ [⟨(q1.rest.take m).toArray⟩] = _
   rw [List.take_add_one, hx, ht, h3, k3, ← hxl, List.take_left]; rfl
 · show q1.rest.drop m = _
   rw [k3, ← hxl, List.drop_left]
theorem OI {b : List UInt8} {q q1 : QS} {n i m : Nat} (h : Mo b n i q) (hi : i < n) (ht : q1.tab = q.tab) (hcan : ∀ s, IT s q → ∀ m' s1, s.eat m' = some s1 → m' ≤ s1.b.length → m' = m ∧ IT s1 q1) (hb : q1.bad = true) (k : Nat) : Mo b n k q1 := by
 intro tab r e
 have := (LY h hi ht hcan tab r e).1
 rw [hb] at this; cases this
theorem Pz {w : World} {g : Option Addr} {n c : Nat} : (Instr.build 95 #[(0, .slice g n c), (1, .int .i64 4)]).run prog w = .ok (.agg [.slice g n c, .int .i64 4, .slice none 0 0, .int .i64 0, .bool false].toArray) w := by
 simp [Instr.build, zeroValue95, runUnderlying95, Value.cells, Instr.fill]
def Tb (p n3 : Nat) (vb : Value) (w' : World) : Prop := ∃ a vt b c, Blk w' p [vb, a, vt, b, c] 95 ∧ ∀ k, Bk vt k → n3 ≤ k
theorem Tb.trk {p n3 : Nat} {vb : Value} {w w' : World} (h : Tb p n3 vb w) (k : Trk p w w') : Tb p n3 vb w' := by
 obtain ⟨a, vt, b, c, hb, hv⟩ := h
 obtain ⟨a', b', c', h1⟩ := k _ _ _ _ _ hb
 exact ⟨_, _, _, _, h1, hv⟩
theorem PV {bs : List UInt8} {c0 c1 c2 c3 : UInt8} (h0 : bs[0]? = some c0) (h1 : bs[1]? = some c1) (h2 : bs[2]? = some c2) (h3 : bs[3]? = some c3) : bs.take 4 = [c0, c1, c2, c3] := by
 match bs, h0, h1, h2, h3 with
 | a :: b :: c :: d :: r, h0, h1, h2, h3 =>
  simp only [List.getElem?_cons_zero, List.getElem?_cons_succ, Option.some.injEq] at h0 h1 h2 h3
  subst h0 h1 h2 h3; rfl
theorem Eo {w : World} {c : UInt8} {k : Nat} {b : Bool} (h : decide (c.toNat = k) = b) : (binOp .neq 5 (bv c) (.int .u8 ((k : Nat) : Int))).run prog w = .ok (.bool (!b)) w := by
 show (binOp .neq 5 (.int .u8 ((c.toNat : Nat) : Int)) (.int .u8 ((k : Nat) : Int))).run prog w = _
 refine BO ?_
 rw [← h]; congr 1; exact decide_eq_decide.2 (by omega)
theorem RJ {w : World} {v : Value} {bs : List UInt8} (hB : Bts w v bs) (hbl : bs.length ≤ 3008) : Calls prog 16 [v].toArray w (Dq (Oe bs w) (fun _ _ => False)) := by
 obtain ⟨g, cap, rfl, hget⟩ := hB.val
 refine AB 134 func16 V V V ?_
 refine Af (Aa (AO (Iy _) V ?_))
 have f1 : F0 w (w.alloc (.cells zsheet.toArray 36)) := Fr.alloc _ _ _
 have a1 : Blk (w.alloc (.cells zsheet.toArray 36)) w.heap.size zsheet 36 := AN
 show WL _ _ _ _ _ _ _ (w.alloc (.cells zsheet.toArray 36))
 generalize w.alloc (.cells zsheet.toArray 36) = w1 at f1 a1 ⊢
 obtain ⟨B, hBd⟩ : ∃ B, B = w.heap.size := ⟨_, rfl⟩
 rw [← hBd] at a1 ⊢
 have hB1 : Bts w1 (.slice g bs.length cap) bs := hB.keep0 f1
 have hBl := a1.lt
 have stE : ∀ {w3 : World}, F0 w1 w3 → (storeVar 36 ⟨B, 0, none⟩ (.agg zsheet.toArray)).run prog w3 = .ok () (w3.setRow B zsheet.toArray) := fun f => EW (kb f a1) rfl rfl GI
 have early : ∀ {w3 : World} {e : Int} {a : Act} {m : Env}, F0 w1 w3 → (∀ t, ¬ DZ bs t) ∧ Fa bs = e → Loc 134 [] m a → m.get 2 = some (ptr B) → m.get 3 = some (.int .i64 e) → bodyPost prog Tryz.f16 (Dq (Oe bs w) (fun _ _ => False)) .ret a (w3.setRow B zsheet.toArray) := by
  intro w3 e a m f he ha h2 h3
  have hb3 := kb f a1
  refine MN V ha h2 h3 (Bg Qb V (hb3.setRow _).all) ⟨zsheet, e, rfl, ?_, .inr ⟨he.1, he.2.symm, rfl⟩⟩
  have f13 := f1.trans f
  exact ⟨f13.os, f13.tape, f13.output, by simpa using f13.size, fun k hk _ => by rw [setRow_other _ _ _ _ (by omega), Fr.blk f13 k hk (fun h => h)], fun _ h => h.elim⟩
 refine Ah V V (Ae ?_)
 refine Af (Af (Aa (Ac V V (AE V (Ay underlying22) V (Al V V (Cu (c := false) (decide_eq_false (by omega)).symm) V (Ae (A9 V (A_ fun a ha => Ad ?_))))))))
 have hlong : ¬ 16777216 < bs.length := by omega
 refine A8 ha (Af (Af (Aa (Ac V V (AE V (Ay underlying22) V (Al V V (Bh (c := decide (bs.length < 9)) (decide_eq_decide.2 (by omega))) V (Ac V V ?_)))))))
 cases h9 : decide (bs.length < 9) with
 | true =>
  refine AY _ _ _ V (Ae (Ax V ?_))
  exact Af (Aa (Cl V Db V (An V V (stE (Fr.refl _ _)) (Ah V V (Ae (AA fun a ha => Ao (early (Fr.refl _ _) (Dj hlong (.inl (of_decide_eq_true h9))) ha V V)))))))
 | false =>
 have hn9 : ¬ bs.length < 9 := of_decide_eq_false h9
 obtain ⟨c0, hc0⟩ : ∃ c, bs[0]? = some c := ⟨_, List.getElem?_eq_getElem (by omega)⟩
 obtain ⟨c1, hc1⟩ : ∃ c, bs[1]? = some c := ⟨_, List.getElem?_eq_getElem (by omega)⟩
 obtain ⟨c2, hc2⟩ : ∃ c, bs[2]? = some c := ⟨_, List.getElem?_eq_getElem (by omega)⟩
 obtain ⟨c3, hc3⟩ : ∃ c, bs[3]? = some c := ⟨_, List.getElem?_eq_getElem (by omega)⟩
 have ht4 := PV hc0 hc1 hc2 hc3
 obtain ⟨b, o, rfl, _, _⟩ := hget 0 c0 hc0
 have hcell : ∀ i c, bs[i]? = some c → w1.cell? ⟨b, o + i, none⟩ = some (bv c) := by
  intro i c hc
  obtain ⟨g', cap', e, hg'⟩ := hB1.val
  cases e
  obtain ⟨b', o', e', hcl, _⟩ := hg' i c hc
  cases e'
  exact hcl
 refine Ag (j := 3) V V V (Ac V V (Ag (j := 3) V V V (A0 V V (Bp (i := 0) underlying22 Kw (by omega) (by omega)) V (Ag (j := 3) V V V (Ai V (A4 Kw (hcell 0 c0 hc0)) V ?_)))))
 cases hx0 : decide (c0.toNat = 67) with
 | false =>
  have hne : bs.take 4 ≠ magicB := fun e => by
   rw [ht4] at e
   simp only [magicB, List.cons.injEq] at e
   have : c0.toNat = 67 := by rw [e.1]; rfl
   exact of_decide_eq_false hx0 this
  refine Ag (j := 3) V V V (Al V V (Eo hx0) V (AI V V V (AY _ _ _ V (Ae (Ax V ?_)))))
  exact Af (Aa (Cl V Db V (An V V (stE (Fr.refl _ _)) (Ah V V (Ae (AA fun a ha => Ao (early (Fr.refl _ _) (Dj hlong (.inr hne)) ha V V)))))))
 | true =>
 refine Ag (j := 3) V V V (Al V V (Eo hx0) V (AI V V V (Ac V V ?_)))
 refine Ag (j := 9) V V V (Ac V V (Ag (j := 9) V V V (A0 V V (Bp (i := 1) underlying22 Kw (by omega) (by omega)) V (Ag (j := 9) V V V (Ai V (A4 Kw (hcell 1 c1 hc1)) V ?_)))))
 cases hx1 : decide (c1.toNat = 72) with
 | false =>
  have hne : bs.take 4 ≠ magicB := fun e => by
   rw [ht4] at e
   simp only [magicB, List.cons.injEq] at e
   have : c1.toNat = 72 := by rw [e.2.1]; rfl
   exact of_decide_eq_false hx1 this
  refine Ag (j := 9) V V V (Al V V (Eo hx1) V (AI V V V (AY _ _ _ V (Ae (Ax V ?_)))))
  exact Af (Aa (Cl V Db V (An V V (stE (Fr.refl _ _)) (Ah V V (Ae (AA fun a ha => Ao (early (Fr.refl _ _) (Dj hlong (.inr hne)) ha V V)))))))
 | true =>
 refine Ag (j := 9) V V V (Al V V (Eo hx1) V (AI V V V (Ac V V ?_)))
 refine Ag (j := 15) V V V (Ac V V (Ag (j := 15) V V V (A0 V V (Bp (i := 2) underlying22 Kw (by omega) (by omega)) V (Ag (j := 15) V V V (Ai V (A4 Kw (hcell 2 c2 hc2)) V ?_)))))
 cases hx2 : decide (c2.toNat = 83) with
 | false =>
  have hne : bs.take 4 ≠ magicB := fun e => by
   rw [ht4] at e
   simp only [magicB, List.cons.injEq] at e
   have : c2.toNat = 83 := by rw [e.2.2.1]; rfl
   exact of_decide_eq_false hx2 this
  refine Ag (j := 15) V V V (Al V V (Eo hx2) V (AI V V V (AY _ _ _ V (Ae (Ax V ?_)))))
  exact Af (Aa (Cl V Db V (An V V (stE (Fr.refl _ _)) (Ah V V (Ae (AA fun a ha => Ao (early (Fr.refl _ _) (Dj hlong (.inr hne)) ha V V)))))))
 | true =>
 refine Ag (j := 15) V V V (Al V V (Eo hx2) V (AI V V V (Ac V V ?_)))
 refine Ag (j := 21) V V V (Ac V V (Ag (j := 21) V V V (A0 V V (Bp (i := 3) underlying22 Kw (by omega) (by omega)) V (Ag (j := 21) V V V (Ai V (A4 Kw (hcell 3 c3 hc3)) V ?_)))))
 cases hx3 : decide (c3.toNat = 76) with
 | false =>
  have hne : bs.take 4 ≠ magicB := fun e => by
   rw [ht4] at e
   simp only [magicB, List.cons.injEq] at e
   have : c3.toNat = 76 := by rw [e.2.2.2.1]; rfl
   exact of_decide_eq_false hx3 this
  refine Ag (j := 21) V V V (Al V V (Eo hx3) V (AI V V V (Ae (Ax V ?_))))
  exact Af (Aa (Cl V Db V (An V V (stE (Fr.refl _ _)) (Ah V V (Ae (AA fun a ha => Ao (early (Fr.refl _ _) (Dj hlong (.inr hne)) ha V V)))))))
 | true =>
 refine Ag (j := 21) V V V (Al V V (Eo hx3) V (AI V V V (Ae (A9 V (A_ fun a ha => Ad ?_)))))
 have hmag : bs.take 4 = magicB := by
  rw [ht4]
  have e0 : c0 = 67 := UInt8.toNat_inj.1 (of_decide_eq_true hx0)
  have e1 : c1 = 72 := UInt8.toNat_inj.1 (of_decide_eq_true hx1)
  have e2 : c2 = 83 := UInt8.toNat_inj.1 (of_decide_eq_true hx2)
  have e3 : c3 = 76 := UInt8.toNat_inj.1 (of_decide_eq_true hx3)
  rw [e0, e1, e2, e3]; rfl
 have hform : ¬ (bs.length < 9 ∨ bs.take 4 ≠ magicB) := fun h => h.elim hn9 (fun h => h hmag)
 have hc4 : ((bs.length : Int) - 4) = ((bs.length - 4 : Nat) : Int) := by omega
 obtain ⟨v6, hsl6, hb6, ho6⟩ := Do hB1 (lo := none) (hi := some (.int .i64 ((bs.length : Int) - 4))) (l := 0) (k := bs.length - 4) (.inl ⟨rfl, rfl⟩) (.inr (by rw [hc4])) (Nat.zero_le _) (by omega)
 rw [List.drop_zero] at hb6
 refine A8 ha (Af (Aa (Ac V V (Ac V V (AE V (Ay underlying22) V (Al V V (v := .int .i64 ((bs.length : Int) - 4)) ?_ V (DV (vl := none) (vh := some (.int .i64 ((bs.length : Int) - 4))) V V V (hsl6 _) V (Ah V V (Ae ?_)))))))))
 · show Result.ok (Value.int .i64 (IntKind.i64.wrap ((bs.length : Int) - 4))) _ = _
   rw [B4 (by unfold Bu; omega)]
 obtain ⟨full, hfull⟩ : ∃ full, full = bs.take (bs.length - 4) := ⟨_, rfl⟩
 rw [← hfull] at hb6
 have hfl : full.length = bs.length - 4 := by rw [hfull, List.length_take]; omega
 obtain ⟨g6, cap6, rfl, _⟩ := hb6.val
 refine Af (B9 (ι := World) (fun _ => [(0, .slice (some ⟨b, o, none⟩) bs.length cap), (2, ptr B), (3, .int .i64 0), (4, .slice g6 full.length cap6), (54, .bool (!decide ((⟨(BP full).toArray⟩ : ByteArray) = ⟨bs.toArray⟩)))]) (fun i w' => w' = i ∧ F0 w1 w') ?_ ?_)
 · refine Hi CE ?_
   have fd : F0 w1 (w1.drewN 1) := Fr.drewn 1
   generalize w1.drewN 1 = wd at fd ⊢
   have hBd := hB1.keep0 fd
   have hb6d := hb6.keep0 fd
   have hl6 : full.length ≤ 2 ^ 45 := by omega
   refine C7 (i := 0) V (by decide +kernel) (by repeat (first | with_reducible exact Bo | with_reducible apply Bl | with_reducible apply Br)) V V (C7 (i := 3) V (by decide +kernel) (by repeat (first | with_reducible exact Bo | with_reducible apply Bl | with_reducible apply Br)) V V ?_)
   refine DN (i := 1) (j := 4) (by decide +kernel) V V ?_ ?_
   · refine Aj call14 V V (PL hb6d hl6) ?_ Be
     rintro v7 w4 ⟨r7, f7⟩
     have F := fd.trans f7.none
     refine Ba (DN (i := 2) (j := 4) (by decide +kernel) V V (AJ V (Cx (BH r7)) V (Ba ?_)) (AJ V (Cx (hBd.keep0 f7.none)) V (Ba ?_)))
     · exact AX (i := 4) (by decide +kernel) V (AJ V (Cx (hBd.keep0 f7.none)) V (Ba (AX (i := 5) (by decide +kernel) V (Dh V V Du V (Ba (Cv (by decide +kernel) (fun a ha => Ad ⟨w4, ha.weak ⟨V, V, V, V, V, trivial⟩, rfl, F⟩)))))))
     · exact AX (i := 2) (by decide +kernel) V (AJ V (Cx (BH r7)) V (Ba (AX (i := 5) (by decide +kernel) V (Dh V V Du V (Ba (Cv (by decide +kernel) (fun a ha => Ad ⟨w4, ha.weak ⟨V, V, V, V, V, trivial⟩, rfl, F⟩)))))))
   · refine AJ V (Cx hBd) V (Ba (AX (i := 1) (by decide +kernel) V (Aj call14 V V (PL hb6d hl6) ?_ Be)))
     rintro v7 w4 ⟨r7, f7⟩
     have F := fd.trans f7.none
     exact Ba (AX (i := 2) (by decide +kernel) V (AJ V (Cx (BH r7)) V (Ba (AX (i := 5) (by decide +kernel) V (Dh V V Du V (Ba (Cv (by decide +kernel) (fun a ha => Ad ⟨w4, ha.weak ⟨V, V, V, V, V, trivial⟩, rfl, F⟩))))))))
 rintro _ w2 ⟨rfl, f2⟩
 have hsb : decide ((⟨(BP full).toArray⟩ : ByteArray) = ⟨bs.toArray⟩) = decide (BP full = bs) := decide_eq_decide.2 ⟨fun e => by have := congrArg (fun x : ByteArray => x.data.toList) e; simpa using this, fun e => by rw [e]⟩
 rw [hsb]
 obtain ⟨sb, hsbd⟩ : ∃ sb, sb = !decide (BP full = bs) := ⟨_, rfl⟩
 rw [← hsbd]
 refine AK V (fun ht => ?_) (fun hf => A_ fun a ha => Ad ?_)
 · have hne : BP (bs.take (bs.length - 4)) ≠ bs := by rw [ht, hfull] at hsbd; intro e; simp [e] at hsbd
   exact Af (Aa (Cl V Db V (An V V (stE f2) (Ah V V (Ae (AA fun a ha => Ao (early f2 (Jz hlong hform hne) ha V V)))))))
 have hsum : ¬ BP (bs.take (bs.length - 4)) ≠ bs := fun hne => hne (by rw [hf, hfull] at hsbd; simpa using hsbd.symm)
 have hbod : full.drop 4 = body bs := by rw [hfull]; rfl
 have hb2 : Bts w2 (.slice g6 full.length cap6) full := hb6.keep0 f2
 refine A8 ha (Af (Aa (Ac V V (Cl V Pz V (Cd V V (Ah V V (Ae ?_)))))))
 have fp : F0 w2 (w2.alloc (.cells [.slice g6 full.length cap6, .int .i64 4, .slice none 0 0, .int .i64 0, .bool false].toArray 95)) := Fr.alloc _ _ _
 have ap : Blk (w2.alloc (.cells [.slice g6 full.length cap6, .int .i64 4, .slice none 0 0, .int .i64 0, .bool false].toArray 95)) w2.heap.size [.slice g6 full.length cap6, .int .i64 4, .slice none 0 0, .int .i64 0, .bool false] 95 := AN
 show W _ _ _ _ _ _ (w2.alloc (.cells [.slice g6 full.length cap6, .int .i64 4, .slice none 0 0, .int .i64 0, .bool false].toArray 95))
 generalize w2.alloc (.cells [.slice g6 full.length cap6, .int .i64 4, .slice none 0 0, .int .i64 0, .bool false].toArray 95) = w3 at fp ap ⊢
 obtain ⟨p, hp⟩ : ∃ p, p = w2.heap.size := ⟨_, rfl⟩
 rw [← hp] at ap ⊢
 have hpl := ap.lt
 have hs12 := f2.size
 have hs1 := f1.size
 have hown : ∀ k, Bk (.slice g6 full.length cap6) k → k < w2.heap.size := by
  intro k hk
  rcases hb2.2 with ⟨e, _⟩ | ⟨b, o, c, e, hb, _⟩
  · rw [e] at hk; exact (E6 k hk).elim
  · rw [e] at hk; have : b = k := by simpa [Bk, Value.ownBlock] using hk
    omega
 have h3 : QSt w3.heap.size p full ⟨full.drop 4, [], 0, false⟩ w3 := by
  have hd4 : full.length - (full.drop 4).length = 4 := by rw [List.length_drop]; omega
  refine ⟨hpl, Nat.le_refl _, ⟨.slice g6 full.length cap6, .slice none 0 0, ?_, hb2.keep0 fp, fun k hk => by have := hown k hk; omega, World.ownsRow_nil _ _ _ _, fun k hk => (E6 k hk).elim⟩, by simp, by show full.drop (full.length - (full.drop 4).length) = _; rw [hd4], by omega, Nat.zero_le _, fun x hx => by simp at hx, Nat.zero_le _⟩
  show Blk w3 p [_, .int .i64 ((full.length - (full.drop 4).length : Nat) : Int), _, _, _] 95
  rw [hd4]; exact ap
 -- the frame of all that follows
 have back : ∀ {w' : World}, Fr (only p) w3 (fun b => b = p ∨ w3.heap.size ≤ b) w' → F0 w2 w' := fun f =>
  ⟨f.os.trans fp.os, f.tape.trans fp.tape, f.output.trans fp.output, Nat.le_trans fp.size f.size, fun k hk _ => by rw [f.blk k (by omega) (fun e => by have : k = p := e; omega), Fr.blk fp k hk (fun h => h)], fun _ h => h.elim⟩
 refine Af (Aa (Ac V V (Aj call33 V V (JX h3) ?_ Be)))
 rintro _ w4 ⟨n, q4, rfl, hn4, h4, f4, tb4, ne4, _, _, _, hz4, can4, trk4⟩
 have hn3 : n ≤ 3008 := by have := h4.le; have := h4.fl; omega
 have hT0 := Nw (b := full.drop 4) rfl rfl rfl tb4 can4
 have hTb : Tb p w3.heap.size (.slice g6 full.length cap6) w3 := ⟨_, _, _, _, ap, fun k hk => (E6 k hk).elim⟩
 refine Ah V V (Ar [(0, .slice (some ⟨b, o, none⟩) bs.length cap), (2, ptr B), (3, .int .i64 0), (4, .slice g6 full.length cap6), (5, ptr p), (6, .int .i64 ((n : Nat) : Int))] ⟨V, V, V, V, V, V, trivial⟩ ?_)
 refine B9 (ι := QS × World) (fun _ => [(0, .slice (some ⟨b, o, none⟩) bs.length cap), (2, ptr B), (3, .int .i64 0), (5, ptr p)]) (fun j w' => w' = j.2 ∧ QSt w'.heap.size p full j.1 w' ∧ Fr (only p) w3 (fun b => b = p ∨ w3.heap.size ≤ b) w' ∧ j.1.nest = 0 ∧ ∀ tab r, full.drop 4 = num tab.length ++ Bi tab ++ r → j.1.bad = false ∧ j.1.tab = tab ∧ j.1.rest = r) ?_ ?_
 · refine Af (Aa (Ah V V (Ae ?_)))
   refine A1 (AW (ι := Nat × QS × World) (fun j => [(0, .slice (some ⟨b, o, none⟩) bs.length cap), (2, ptr B), (3, .int .i64 0), (4, .slice g6 full.length cap6), (5, ptr p), (6, .int .i64 ((n : Nat) : Int)), (7, .int .i64 ((j.1 : Nat) : Int))])
    (fun j w' => w' = j.2.2 ∧ j.1 ≤ n ∧ QSt w'.heap.size p full j.2.1 w' ∧ Fr (only p) w3 (fun b => b = p ∨ w3.heap.size ≤ b) w' ∧ j.2.1.nest = 0 ∧ j.2.1.tab.length ≤ j.1 ∧ Mo (full.drop 4) n j.1 j.2.1 ∧ Tb p w3.heap.size (.slice g6 full.length cap6) w') (fun j => n - j.1)
    (0, q4, w4) ⟨V, V, V, V, V, V, V, trivial⟩ ⟨rfl, Nat.zero_le _, h4.rebase, ⟨f4.os, f4.tape, f4.output, f4.size, f4.blk, fun b hb => hb⟩, ne4, by rw [tb4]; exact Nat.le_refl 0, hT0, hTb.trk trk4⟩ ?_)
   clear h4 f4 tb4 ne4 can4 hz4 hn4 hT0 trk4
   rintro ⟨i, q5, _⟩ w5 ⟨rfl, hi, h5, f5, ne5, tl5, hT, htb5⟩
   simp only at hi h5 f5 ne5 tl5 hT htb5 ⊢
   refine Af (Af (Aa (Ac V V (Ac V V (Al V V (Bh (c := decide (i < n)) (decide_eq_decide.2 Int.ofNat_lt.symm)) V (Ac V V ?_))))))
   obtain ⟨vb, vt, mm⟩ := h5.mem
   have leave : (q5.bad = true ∨ i = n) → ∀ tab r, full.drop 4 = num tab.length ++ Bi tab ++ r → q5.bad = false ∧ q5.tab = tab ∧ q5.rest = r := by
    intro hend tab r e
    obtain ⟨k1, k2, k3, k4⟩ := hT tab r e
    rcases hend with hb | hin
    · rw [k2] at hb; cases hb
    · subst hin; rw [← k1, List.take_length] at k3; rw [← k1, List.drop_length] at k4; exact ⟨k2, k3, by rw [k4]; rfl⟩
   by_cases hin : i < n
   rotate_left
   · rw [decide_eq_false hin]
     exact AY _ _ _ V (Ae (A9 V (AQ fun a ha => Aq (Aq (A3 (Ad ⟨(q5, w5), ha.weak ⟨V, V, V, V, trivial⟩, rfl, h5, f5, ne5, leave (.inr (by omega))⟩))))))
   rw [decide_eq_true hin]
   refine Ag (j := 3) V V V (Ac V V (Ag (j := 3) V V V (As V V (Ag (j := 3) V V V (Ab V (BV _ _ _) V (Ag (j := 3) V V V (Ai V (A4 Ee (mm.blk.get V)) V (Ag (j := 3) V V V (Bt V V (AI V V V (Ae ?_)))))))))))
   cases hqb : q5.bad with
   | true => exact A9 V (AQ fun a ha => Aq (Aq (A3 (Ad ⟨(q5, w5), ha.weak ⟨V, V, V, V, trivial⟩, rfl, h5, f5, ne5, leave (.inl hqb)⟩))))
   | false =>
   refine Ax V (A_ fun a ha => Ad ?_)
   refine A8 ha (Af (A1 ?_))
   refine Af (Aa (Ac V V (Aj call33 V V (JX h5) ?_ Be)))
   rintro _ w6 ⟨m, q6, rfl, hm6, h6, f6, tb6, ne6, _, _, _, _, can6, trk6⟩
   have f36 : Fr (only p) w3 (fun b => b = p ∨ w3.heap.size ≤ b) w6 := f5.trans (f6.drop (fun b hb => .inl hb))
   have hs36 := f36.size
   have hs6 := h6.rebase
   obtain ⟨vb6, vt6, m6⟩ := hs6.mem
   refine Ah V V (Ar [(0, .slice (some ⟨b, o, none⟩) bs.length cap), (2, ptr B), (3, .int .i64 0), (4, .slice g6 full.length cap6), (5, ptr p), (6, .int .i64 ((n : Nat) : Int)), (7, .int .i64 ((i : Nat) : Int)), (8, .int .i64 ((m : Nat) : Int))] ⟨V, V, V, V, V, V, V, V, trivial⟩ ?_)
   refine Af (Aa (Ac V V (As V V (Ab V (BV _ _ _) V (Ai V (A4 Ee (m6.blk.get V)) V (Bt V V (Ae ?_)))))))
   cases hq6 : q6.bad with
   | true =>
    refine A9 V (A_ fun a ha => Az (Ad ?_))
    refine A8 ha (Aa (Ac V V (Al V V V V (Ah V V (A2 fun a ha => Ad ?_)))))
    exact ⟨(i + 1, q6, w6), ha.weak ⟨rfl, rfl, rfl, rfl, rfl, rfl, congrArg some (AS (by omega)), trivial⟩, ⟨rfl, hin, hs6, f36, ne6.trans ne5, by show q6.tab.length ≤ i + 1; rw [tb6]; omega, OI hT hin tb6 can6 hq6 (i + 1), htb5.trk trk6⟩, by show n - (i + 1) < n - i; omega⟩
   | false =>
    have hle6 := hs6.le
    have hsuf6 := hs6.suf
    have hst6 := hs6.st
    refine Ax V ?_
    refine B9 (ι := Value × World) (fun _ => [(0, .slice (some ⟨b, o, none⟩) bs.length cap), (2, ptr B), (3, .int .i64 0), (4, .slice g6 full.length cap6), (5, ptr p), (6, .int .i64 ((n : Nat) : Int)), (7, .int .i64 ((i : Nat) : Int)), (8, .int .i64 ((m : Nat) : Int))])
     (fun j w' => w' = j.2 ∧ Fr (fun k => k = p ∨ Bk vt6 k) w6 (fun k => k = p ∨ Bk j.1 k) w' ∧ Blk w' p [vb6, .int .i64 ((full.length - q6.rest.length : Nat) : Int), j.1, .int .i64 (q6.nest : Nat), .bool false] 95 ∧ w'.ownsRow 0 9 1 j.1 (q6.put m).tab.length ((q6.put m).tab.map Value.string) ∧ (∀ k, Bk j.1 k → k ≠ p)) ?_ ?_
    · refine Hi CE ?_
      have fd : F0 w6 (w6.drewN 1) := Fr.drewn 1
      have m6b := m6.blk
      rw [hq6] at m6b
      have bp : Blk (w6.drewN 1) p [vb6, .int .i64 ((full.length - q6.rest.length : Nat) : Int), vt6, .int .i64 (q6.nest : Nat), .bool false] 95 := kb fd m6b
      have rowd := AP m6.row (fun k hk => Fr.blk fd k (AT m6.row hk) (fun h => h))
      have btsd : Bts (w6.drewN 1) (.slice g6 full.length cap6) full := hb2.keep0 ((back f36).trans fd)
      generalize w6.drewN 1 = wd at fd bp rowd btsd ⊢
      have e2 : wd.cell? ⟨p, 2, none⟩ = some vt6 := bp.get rfl
      have e1 : wd.cell? ⟨p, 1, none⟩ = some (.int .i64 ((full.length - q6.rest.length : Nat) : Int)) := bp.get rfl
      have hadd : ∀ w, (binOp .add 3 (.int .i64 ((full.length - q6.rest.length : Nat) : Int)) (.int .i64 ((m : Nat) : Int))).run prog w = .ok (.int .i64 ((full.length - q6.rest.length + m : Nat) : Int)) w := fun w => by
       have := JU (w := w) (t := 3) (a := ((full.length - q6.rest.length : Nat) : Int)) (b := ((m : Nat) : Int)) (by unfold Bu; omega)
       rwa [show ((full.length - q6.rest.length : Nat) : Int) + ((m : Nat) : Int) = ((full.length - q6.rest.length + m : Nat) : Int) by omega] at this
      obtain ⟨sv, hsl, hsv, _⟩ := Do btsd (lo := some (.int .i64 ((full.length - q6.rest.length : Nat) : Int))) (hi := some (.int .i64 ((full.length - q6.rest.length + m : Nat) : Int))) (l := full.length - q6.rest.length) (k := full.length - q6.rest.length + m) (.inr rfl) (.inr rfl) (by omega) (by omega)
      rw [List.drop_take, hsuf6, Nat.add_sub_cancel_left] at hsv
      have hstr := Cx hsv
      have fw2 : F0 wd (wd.alloc (.cells [Value.string (ByteArray.mk (q6.rest.take m).toArray)].toArray 9)) := Fr.alloc _ _ _
      have bw2 : Blk (wd.alloc (.cells [Value.string (ByteArray.mk (q6.rest.take m).toArray)].toArray 9)) wd.heap.size [Value.string (ByteArray.mk (q6.rest.take m).toArray)] 9 := AN
      have hlit := JG (w := wd) (x := (ByteArray.mk (q6.rest.take m).toArray))
      generalize wd.alloc (.cells [Value.string (ByteArray.mk (q6.rest.take m).toArray)].toArray 9) = w7 at fw2 bw2 hlit
      have bp7 := kb fw2 bp
      have e2b : w7.cell? ⟨p, 2, none⟩ = some vt6 := bp7.get rfl
      have row7 := AP rowd (fun k hk => Fr.blk fw2 k (AT rowd hk) (fun h => h))
      obtain ⟨v8, w8, hr2, r8, f8⟩ := Fh (u := 44) (ty := 44) (ys := [(ByteArray.mk (q6.rest.take m).toArray)]) row7 (KW (sz := 1) underlying44 rfl (Ln rfl) bw2) (by simp only [List.length_cons, List.length_nil]; omega)
      have hvp : ¬ Bk vt6 p := fun ho => (m6.nt p ho).2 rfl
      have hp7 := bp7.lt
      have bp8 : Blk w8 p [vb6, .int .i64 ((full.length - q6.rest.length : Nat) : Int), vt6, .int .i64 (q6.nest : Nat), .bool false] 95 := (Fr.blk f8 p hp7 hvp).trans bp7
      obtain ⟨g8, c8, rfl, _⟩ := Dr r8
      have hst9 := Fg (i := 2) (t := 44) (cs' := [vb6, .int .i64 ((full.length - q6.rest.length : Nat) : Int), .slice g8 (q6.tab ++ [(ByteArray.mk (q6.rest.take m).toArray)]).length c8, .int .i64 (q6.nest : Nat), .bool false]) bp8 FG rfl rfl (by simp) rfl
      have bp9 : Blk (w8.setRow p [vb6, .int .i64 ((full.length - q6.rest.length : Nat) : Int), .slice g8 (q6.tab ++ [(ByteArray.mk (q6.rest.take m).toArray)]).length c8, .int .i64 (q6.nest : Nat), .bool false].toArray) p [vb6, .int .i64 ((full.length - q6.rest.length : Nat) : Int), .slice g8 (q6.tab ++ [(ByteArray.mk (q6.rest.take m).toArray)]).length c8, .int .i64 (q6.nest : Nat), .bool false] 95 := bp8.setRow _
      have hw67 : w6.heap.size ≤ w7.heap.size := Nat.le_trans fd.size fw2.size
      have hpl6 : p < w6.heap.size := Nat.lt_of_lt_of_le hpl hs36
      have hnp8 : ∀ k, Bk (.slice g8 (q6.tab ++ [(ByteArray.mk (q6.rest.take m).toArray)]).length c8) k → k ≠ p := fun k hk => by
       rcases f8.own k hk with h | h
       · exact (m6.nt k h).2
       · omega
      have r9 : (w8.setRow p [vb6, .int .i64 ((full.length - q6.rest.length : Nat) : Int), .slice g8 (q6.tab ++ [(ByteArray.mk (q6.rest.take m).toArray)]).length c8, .int .i64 (q6.nest : Nat), .bool false].toArray).ownsRow 0 9 1 (.slice g8 (q6.tab ++ [(ByteArray.mk (q6.rest.take m).toArray)]).length c8) (q6.tab ++ [(ByteArray.mk (q6.rest.take m).toArray)]).length ((q6.tab ++ [(ByteArray.mk (q6.rest.take m).toArray)]).map Value.string) := AP r8 (fun k hk => setRow_other _ _ _ _ (hnp8 k hk))
      have f69 : Fr (fun k => k = p ∨ Bk vt6 k) w6 (fun k => k = p ∨ Bk (.slice g8 (q6.tab ++ [(ByteArray.mk (q6.rest.take m).toArray)]).length c8) k) (w8.setRow p [vb6, .int .i64 ((full.length - q6.rest.length : Nat) : Int), .slice g8 (q6.tab ++ [(ByteArray.mk (q6.rest.take m).toArray)]).length c8, .int .i64 (q6.nest : Nat), .bool false].toArray) := by
       have hs8 := f8.size
       refine ⟨f8.os.trans (fw2.os.trans fd.os), f8.tape.trans (fw2.tape.trans fd.tape), f8.output.trans (fw2.output.trans fd.output), by simp only [BB]; omega, fun k hk hn => ?_, fun k hk => ?_⟩
       · rw [setRow_other _ _ _ _ (fun e => hn (.inl e)), Fr.blk f8 k (by omega) (fun h => hn (.inr h)), Fr.blk fw2 k (Nat.lt_of_lt_of_le hk fd.size) (fun h => h), Fr.blk fd k hk (fun h => h)]
       · rcases hk with h | h
         · exact .inl (.inl h)
         · rcases f8.own k h with h | h
           · exact .inl (.inr h)
           · exact .inr (by omega)
      generalize w8.setRow p [vb6, .int .i64 ((full.length - q6.rest.length : Nat) : Int), .slice g8 (q6.tab ++ [(ByteArray.mk (q6.rest.take m).toArray)]).length c8, .int .i64 (q6.nest : Nat), .bool false].toArray = w9 at hst9 bp9 r9 f69
      refine C7 (i := 0) V (by decide +kernel) (by repeat (first | with_reducible exact Bo | with_reducible apply Bl | with_reducible apply Br)) V V (C7 (i := 1) V (by decide +kernel) (by repeat (first | with_reducible exact Bo | with_reducible apply Bl | with_reducible apply Br)) V V (DK (i := 2) V (by decide +kernel) (by repeat (first | with_reducible exact Bo | with_reducible apply Bl | with_reducible apply Br)) V V (Ct (i := 3) V (by decide +kernel) (by repeat (first | with_reducible exact Bo | with_reducible apply Bl | with_reducible apply Br)) V (fun w => D5 w _ _) V (C7 (i := 5) V (by decide +kernel) (by repeat (first | with_reducible exact Bo | with_reducible apply Bl | with_reducible apply Br)) V V ?_))))
      refine C7 (i := 6) V (by decide +kernel) (by repeat (first | with_reducible exact Bo | with_reducible apply Bl | with_reducible apply Br)) V V (DK (i := 7) V (by decide +kernel) (by repeat (first | with_reducible exact Bo | with_reducible apply Bl | with_reducible apply Br)) V V (Ct (i := 8) V (by decide +kernel) (by repeat (first | with_reducible exact Bo | with_reducible apply Bl | with_reducible apply Br)) V (fun w => ED w _ _) V ?_))
      refine C7 (i := 10) V (by decide +kernel) (by repeat (first | with_reducible exact Bo | with_reducible apply Bl | with_reducible apply Br)) V V (DK (i := 11) V (by decide +kernel) (by repeat (first | with_reducible exact Bo | with_reducible apply Bl | with_reducible apply Br)) V V (Ct (i := 12) V (by decide +kernel) (by repeat (first | with_reducible exact Bo | with_reducible apply Bl | with_reducible apply Br)) V (fun w => ED w _ _) V (C7 (i := 14) V (by decide +kernel) (by repeat (first | with_reducible exact Bo | with_reducible apply Bl | with_reducible apply Br)) V V ?_)))
      refine MA (rs := [4, 9, 13]) (by decide +kernel) (by simp) ?_
      intro k hk
      simp only [List.mem_cons, List.not_mem_nil, or_false] at hk
      rcases hk with rfl | rfl | rfl
      · refine Fs V (Ai V (A4 FG e2) V (Ba ?_))
        refine DN (i := 9) (j := 13) (by decide +kernel) V V (Ai V (A4 ET e1) V (Ba ?_)) (Ai V (A4 ET e1) V (Ba ?_))
        · skip
          refine AX (i := 13) (by decide +kernel) V (Ai V (A4 ET e1) V (Ba ?_))
          refine D6 (i := 15) V (by decide +kernel) (by repeat (first | with_reducible exact Bo | with_reducible apply Bl | with_reducible apply Br)) V V hadd V ?_
          refine FX (i := 16) V (by decide +kernel) (by repeat (first | with_reducible exact Bo | with_reducible apply Bl | with_reducible apply Br)) V V V hsl V ?_
          refine AX (i := 17) (by decide +kernel) V (AJ V hstr V (Ba ?_))
          refine AX (i := 18) (by decide +kernel) V (A7 V hlit V (Ba ?_))
          exact AX (i := 19) (by decide +kernel) V (AU V V hr2 V (Ba (AX (i := 20) (by decide +kernel) V (As V V (Ba (AX (i := 21) (by decide +kernel) V (Ab V (D5 _ _ _) V (Ba (AX (i := 22) (by decide +kernel) V (An V V hst9 (Ba (Cv (by decide +kernel) (fun a ha => Ad ⟨(_, w9), ha.weak ⟨V, V, V, V, V, V, V, V, trivial⟩, rfl, f69, bp9, r9, hnp8⟩)))))))))))))
        · skip
          refine D6 (i := 15) V (by decide +kernel) (by repeat (first | with_reducible exact Bo | with_reducible apply Bl | with_reducible apply Br)) V V hadd V ?_
          refine AX (i := 9) (by decide +kernel) V (Ai V (A4 ET e1) V (Ba ?_))
          refine FX (i := 16) V (by decide +kernel) (by repeat (first | with_reducible exact Bo | with_reducible apply Bl | with_reducible apply Br)) V V V hsl V ?_
          refine AX (i := 17) (by decide +kernel) V (AJ V hstr V (Ba ?_))
          refine AX (i := 18) (by decide +kernel) V (A7 V hlit V (Ba ?_))
          exact AX (i := 19) (by decide +kernel) V (AU V V hr2 V (Ba (AX (i := 20) (by decide +kernel) V (As V V (Ba (AX (i := 21) (by decide +kernel) V (Ab V (D5 _ _ _) V (Ba (AX (i := 22) (by decide +kernel) V (An V V hst9 (Ba (Cv (by decide +kernel) (fun a ha => Ad ⟨(_, w9), ha.weak ⟨V, V, V, V, V, V, V, V, trivial⟩, rfl, f69, bp9, r9, hnp8⟩)))))))))))))
      · refine Fs V (Ai V (A4 ET e1) V (Ba ?_))
        refine DN (i := 4) (j := 13) (by decide +kernel) V V (Ai V (A4 FG e2) V (Ba ?_)) (Ai V (A4 ET e1) V (Ba ?_))
        · skip
          refine AX (i := 13) (by decide +kernel) V (Ai V (A4 ET e1) V (Ba ?_))
          refine D6 (i := 15) V (by decide +kernel) (by repeat (first | with_reducible exact Bo | with_reducible apply Bl | with_reducible apply Br)) V V hadd V ?_
          refine FX (i := 16) V (by decide +kernel) (by repeat (first | with_reducible exact Bo | with_reducible apply Bl | with_reducible apply Br)) V V V hsl V ?_
          refine AX (i := 17) (by decide +kernel) V (AJ V hstr V (Ba ?_))
          refine AX (i := 18) (by decide +kernel) V (A7 V hlit V (Ba ?_))
          exact AX (i := 19) (by decide +kernel) V (AU V V hr2 V (Ba (AX (i := 20) (by decide +kernel) V (As V V (Ba (AX (i := 21) (by decide +kernel) V (Ab V (D5 _ _ _) V (Ba (AX (i := 22) (by decide +kernel) V (An V V hst9 (Ba (Cv (by decide +kernel) (fun a ha => Ad ⟨(_, w9), ha.weak ⟨V, V, V, V, V, V, V, V, trivial⟩, rfl, f69, bp9, r9, hnp8⟩)))))))))))))
        · skip
          refine D6 (i := 15) V (by decide +kernel) (by repeat (first | with_reducible exact Bo | with_reducible apply Bl | with_reducible apply Br)) V V hadd V ?_
          refine FX (i := 16) V (by decide +kernel) (by repeat (first | with_reducible exact Bo | with_reducible apply Bl | with_reducible apply Br)) V V V hsl V ?_
          refine DN (i := 4) (j := 17) (by decide +kernel) V V (Ai V (A4 FG e2) V (Ba ?_)) (AJ V hstr V (Ba ?_))
          · skip
            refine AX (i := 17) (by decide +kernel) V (AJ V hstr V (Ba ?_))
            refine AX (i := 18) (by decide +kernel) V (A7 V hlit V (Ba ?_))
            exact AX (i := 19) (by decide +kernel) V (AU V V hr2 V (Ba (AX (i := 20) (by decide +kernel) V (As V V (Ba (AX (i := 21) (by decide +kernel) V (Ab V (D5 _ _ _) V (Ba (AX (i := 22) (by decide +kernel) V (An V V hst9 (Ba (Cv (by decide +kernel) (fun a ha => Ad ⟨(_, w9), ha.weak ⟨V, V, V, V, V, V, V, V, trivial⟩, rfl, f69, bp9, r9, hnp8⟩)))))))))))))
          · skip
            refine DN (i := 4) (j := 18) (by decide +kernel) V V (Ai V (A4 FG e2) V (Ba ?_)) (A7 V hlit V (Ba ?_))
            · skip
              refine AX (i := 18) (by decide +kernel) V (A7 V hlit V (Ba ?_))
              exact AX (i := 19) (by decide +kernel) V (AU V V hr2 V (Ba (AX (i := 20) (by decide +kernel) V (As V V (Ba (AX (i := 21) (by decide +kernel) V (Ab V (D5 _ _ _) V (Ba (AX (i := 22) (by decide +kernel) V (An V V hst9 (Ba (Cv (by decide +kernel) (fun a ha => Ad ⟨(_, w9), ha.weak ⟨V, V, V, V, V, V, V, V, trivial⟩, rfl, f69, bp9, r9, hnp8⟩)))))))))))))
            · skip
              refine AX (i := 4) (by decide +kernel) V (Ai V (A4 FG e2b) V (Ba ?_))
              exact AX (i := 19) (by decide +kernel) V (AU V V hr2 V (Ba (AX (i := 20) (by decide +kernel) V (As V V (Ba (AX (i := 21) (by decide +kernel) V (Ab V (D5 _ _ _) V (Ba (AX (i := 22) (by decide +kernel) V (An V V hst9 (Ba (Cv (by decide +kernel) (fun a ha => Ad ⟨(_, w9), ha.weak ⟨V, V, V, V, V, V, V, V, trivial⟩, rfl, f69, bp9, r9, hnp8⟩)))))))))))))
      · refine Fs V (Ai V (A4 ET e1) V (Ba ?_))
        refine D6 (i := 15) V (by decide +kernel) (by repeat (first | with_reducible exact Bo | with_reducible apply Bl | with_reducible apply Br)) V V hadd V ?_
        refine DN (i := 4) (j := 9) (by decide +kernel) V V (Ai V (A4 FG e2) V (Ba ?_)) (Ai V (A4 ET e1) V (Ba ?_))
        · skip
          refine AX (i := 9) (by decide +kernel) V (Ai V (A4 ET e1) V (Ba ?_))
          refine FX (i := 16) V (by decide +kernel) (by repeat (first | with_reducible exact Bo | with_reducible apply Bl | with_reducible apply Br)) V V V hsl V ?_
          refine AX (i := 17) (by decide +kernel) V (AJ V hstr V (Ba ?_))
          refine AX (i := 18) (by decide +kernel) V (A7 V hlit V (Ba ?_))
          exact AX (i := 19) (by decide +kernel) V (AU V V hr2 V (Ba (AX (i := 20) (by decide +kernel) V (As V V (Ba (AX (i := 21) (by decide +kernel) V (Ab V (D5 _ _ _) V (Ba (AX (i := 22) (by decide +kernel) V (An V V hst9 (Ba (Cv (by decide +kernel) (fun a ha => Ad ⟨(_, w9), ha.weak ⟨V, V, V, V, V, V, V, V, trivial⟩, rfl, f69, bp9, r9, hnp8⟩)))))))))))))
        · skip
          refine FX (i := 16) V (by decide +kernel) (by repeat (first | with_reducible exact Bo | with_reducible apply Bl | with_reducible apply Br)) V V V hsl V ?_
          refine DN (i := 4) (j := 17) (by decide +kernel) V V (Ai V (A4 FG e2) V (Ba ?_)) (AJ V hstr V (Ba ?_))
          · skip
            refine AX (i := 17) (by decide +kernel) V (AJ V hstr V (Ba ?_))
            refine AX (i := 18) (by decide +kernel) V (A7 V hlit V (Ba ?_))
            exact AX (i := 19) (by decide +kernel) V (AU V V hr2 V (Ba (AX (i := 20) (by decide +kernel) V (As V V (Ba (AX (i := 21) (by decide +kernel) V (Ab V (D5 _ _ _) V (Ba (AX (i := 22) (by decide +kernel) V (An V V hst9 (Ba (Cv (by decide +kernel) (fun a ha => Ad ⟨(_, w9), ha.weak ⟨V, V, V, V, V, V, V, V, trivial⟩, rfl, f69, bp9, r9, hnp8⟩)))))))))))))
          · skip
            refine DN (i := 4) (j := 18) (by decide +kernel) V V (Ai V (A4 FG e2) V (Ba ?_)) (A7 V hlit V (Ba ?_))
            · skip
              refine AX (i := 18) (by decide +kernel) V (A7 V hlit V (Ba ?_))
              exact AX (i := 19) (by decide +kernel) V (AU V V hr2 V (Ba (AX (i := 20) (by decide +kernel) V (As V V (Ba (AX (i := 21) (by decide +kernel) V (Ab V (D5 _ _ _) V (Ba (AX (i := 22) (by decide +kernel) V (An V V hst9 (Ba (Cv (by decide +kernel) (fun a ha => Ad ⟨(_, w9), ha.weak ⟨V, V, V, V, V, V, V, V, trivial⟩, rfl, f69, bp9, r9, hnp8⟩)))))))))))))
            · skip
              refine AX (i := 4) (by decide +kernel) V (Ai V (A4 FG e2b) V (Ba ?_))
              exact AX (i := 19) (by decide +kernel) V (AU V V hr2 V (Ba (AX (i := 20) (by decide +kernel) V (As V V (Ba (AX (i := 21) (by decide +kernel) V (Ab V (D5 _ _ _) V (Ba (AX (i := 22) (by decide +kernel) V (An V V hst9 (Ba (Cv (by decide +kernel) (fun a ha => Ad ⟨(_, w9), ha.weak ⟨V, V, V, V, V, V, V, V, trivial⟩, rfl, f69, bp9, r9, hnp8⟩)))))))))))))
    · rintro ⟨v9, _⟩ w9 ⟨rfl, f69, bp9, r9, hnp9⟩
      simp only at f69 bp9 r9 hnp9 ⊢
      have hs69 := f69.size
      have hpl6 : p < w6.heap.size := Nat.lt_of_lt_of_le hpl hs36
      have hst10 : (storeVar 3 ⟨p, 1, none⟩ (.int .i64 ((full.length - (q6.rest.drop m).length : Nat) : Int))).run prog w9 = .ok () (w9.setRow p [vb6, .int .i64 ((full.length - (q6.rest.drop m).length : Nat) : Int), v9, .int .i64 (q6.nest : Nat), .bool false].toArray) := Fg bp9 ET rfl rfl (by simp) rfl
      have hsum' : full.length - q6.rest.length + m = full.length - (q6.rest.drop m).length := by rw [List.length_drop]; omega
      refine Aa (Ac V V (Ac V V (As V V (Ab V (ED _ _ _) V (Ai V (A4 ET (bp9.get V)) V (Ac V V (Al (v := .int .i64 ((full.length - (q6.rest.drop m).length : Nat) : Int)) V V ?_ V (As V V (Ab V (ED _ _ _) V (An V V hst10 (A2 fun a ha => Az (Ad ?_))))))))))))
      · have := JU (w := w9) (t := 3) (a := ((full.length - q6.rest.length : Nat) : Int)) (b := ((m : Nat) : Int)) (by unfold Bu; omega)
        rwa [show ((full.length - q6.rest.length : Nat) : Int) + ((m : Nat) : Int) = ((full.length - (q6.rest.drop m).length : Nat) : Int) by omega] at this
      have bp10 : Blk (w9.setRow p [vb6, .int .i64 ((full.length - (q6.rest.drop m).length : Nat) : Int), v9, .int .i64 (q6.nest : Nat), .bool false].toArray) p [vb6, .int .i64 ((full.length - (q6.rest.drop m).length : Nat) : Int), v9, .int .i64 (q6.nest : Nat), .bool false] 95 := bp9.setRow _
      obtain ⟨a6, vt6', b6', c6', hb6', hvt6⟩ := htb5.trk trk6
      have ecs := Ne m6.blk hb6'
      simp only [List.cons.injEq] at ecs
      obtain ⟨evb, _, evt, _, _⟩ := ecs
      rw [← evt] at hvt6
      have hvb : ∀ k, Bk vb6 k → k < w6.heap.size ∧ k ≠ p ∧ ¬ Bk vt6 k := fun k hk => by
       have hk2 := hown k (evb ▸ hk)
       exact ⟨by omega, by omega, fun ho => by have := hvt6 k ho; omega⟩
      have hv9 : ∀ k, Bk v9 k → w3.heap.size ≤ k := fun k hk => by
       rcases f69.own k (.inr hk) with (h | h) | h
       · exact (hnp9 k hk h).elim
       · exact hvt6 k h
       · omega
      have h10 : QSt (w9.setRow p [vb6, .int .i64 ((full.length - (q6.rest.drop m).length : Nat) : Int), v9, .int .i64 (q6.nest : Nat), .bool false].toArray).heap.size p full (q6.put m) (w9.setRow p [vb6, .int .i64 ((full.length - (q6.rest.drop m).length : Nat) : Int), v9, .int .i64 (q6.nest : Nat), .bool false].toArray) := by
       refine ⟨by simp only [BB]; omega, Nat.le_refl _, ⟨vb6, v9, ?_, m6.bts.keepB (by simp only [BB]; exact hs69) (fun k hk => ?_), fun k hk => ⟨by simp only [BB]; have := (hvb k hk).1; omega, (hvb k hk).2.1⟩, AP r9 (fun k hk => setRow_other _ _ _ _ (hnp9 k hk)), fun k hk => ⟨by simp only [BB]; exact AT r9 hk, hnp9 k hk⟩⟩, ?_, LC hsuf6 hle6 hm6, hs6.fl, ?_, ?_, hs6.sn⟩
       · rw [show (q6.put m).bad = false from hq6]; exact bp10
       · rw [setRow_other _ _ _ _ (hvb k hk).2.1, Fr.blk f69 k (hvb k hk).1 (fun h => h.elim (hvb k hk).2.1 (hvb k hk).2.2)]
       · show (q6.rest.drop m).length ≤ _; rw [List.length_drop]; omega
       · show (q6.tab ++ [_]).length ≤ 3008
         rw [List.length_append, tb6]; simp only [List.length_cons, List.length_nil]; omega
       · intro x hx
         have hx : x ∈ q6.tab ++ [(ByteArray.mk (q6.rest.take m).toArray)] := hx
         rcases List.mem_append.1 hx with h | h
         · exact hs6.tabs x h
         · rw [List.mem_singleton.1 h]
           show (q6.rest.take m).toArray.size ≤ 3008
           rw [List.size_toArray, List.length_take]; have := hs6.fl; omega
      refine A8 ha (Aa (Ac V V (Al V V V V (Ah V V (A2 fun a ha => Ad ?_)))))
      refine ⟨(i + 1, q6.put m, w9.setRow p [vb6, .int .i64 ((full.length - (q6.rest.drop m).length : Nat) : Int), v9, .int .i64 (q6.nest : Nat), .bool false].toArray), ha.weak ⟨rfl, rfl, rfl, rfl, rfl, rfl, congrArg some (AS (by omega)), trivial⟩, ⟨rfl, hin, h10, ?_, ne6.trans ne5, ?_, OT hT hin tb6 can6, ⟨_, v9, _, _, by rw [← evb]; exact bp10, hv9⟩⟩, by show n - (i + 1) < n - i; omega⟩
      · exact f36.trans (((f69.drop (O := fun k => k = p ∨ w3.heap.size ≤ k) (fun k hk => hk.elim .inl (fun h => .inr (hvt6 k h)))).trans (Fr.setRow _ (.inl V))))
      · show (q6.tab ++ [_]).length ≤ i + 1
        rw [List.length_append, tb6]; simp only [List.length_cons, List.length_nil]; omega
 rintro ⟨q7, _⟩ w7 ⟨rfl, h7, f7, ne7, can7⟩
 simp only at h7 f7 ne7 can7 ⊢
 have hd5 : (∀ t, ¬ DZ bs t) → (∀ t, ¬ DZ bs t) ∧ Fa bs = 5 := fun h => ⟨h, by unfold Fa; rw [if_neg hlong, if_neg hform, if_neg hsum]⟩
 refine Af (Aa (Ac V V (Aj call34 V V (Ra _ _ h7 ne7) ?_ Be)))
 rintro _ w8 ⟨t, q8, cs, rfl, r8, h8, f8, ne8, tb8, cost8, fit8⟩
 have hone := Rep.one _ _ _ r8
 have law : ∀ u, DZ bs u → u = t ∧ q8.bad = false ∧ CH t = some bs := fun u d => by
  have he := K1 d
  obtain ⟨tab, r, s', hb, _, hc, _, _⟩ := d.parse
  obtain ⟨k1, k2, k3⟩ := can7 tab r (hbod.trans hb)
  obtain ⟨e1, e2⟩ := fit8 ⟨r, tab, 0, 0⟩ ⟨k1, k3, k2, ne7⟩ u s' hc
  subst e1
  exact ⟨rfl, e2.1, he⟩
 obtain ⟨w9, hst9, b9, f9⟩ := HT (w := w8) (cs := cs) hone.1 hone.2
 have f78 := back (f7.trans (f8.drop (O := fun b => b = p ∨ w3.heap.size ≤ b) (fun b hb => .inl hb)))
 have f19 : F0 w1 w9 := (f2.trans f78).trans f9
 have r9 := r8.fresh f9
 obtain ⟨vb8, vt8, m8⟩ := h8.mem
 have bp9 := kb f9 m8.blk
 refine AO (Iy _) V (An V V hst9 (Ae ?_))
 refine Af (Af (Aa (Ac V V (As V V (Ab V (BV _ _ _) V (Ai V (A4 Ee (bp9.get V)) V (Ae ?_)))))))
 cases hq8 : q8.bad with
 | true =>
  refine Ax V ?_
  exact Af (Aa (Cl V Db V (An V V (stE f19) (Ah V V (Ae (AA fun a ha => Ao (early f19 (hd5 fun u d => by rw [(law u d).2.1] at hq8; cases hq8) ha V V)))))))
 | false =>
 refine A9 V (A_ fun a ha => Ad ?_)
 have hq7 : q7.bad = false := by
  cases hb : q7.bad with
  | false => rfl
  | true => rw [(cost8.z hb).1] at hq8; cases hq8
 have hwt := cost8.g hq7 hq8
 have hle7 := h7.le
 have hfl7 := h7.fl
 refine A8 ha (Af (Aa (Ai V (Bg EE hone.1 b9.all) V (Aj call35 V V (Sz r9 (by omega)) ?_ Be))))
 intro v10 w10 he10
 obtain ⟨vb10, g10, c10, rfl, hvb10, hb10, f10⟩ := Oc he10
 have f110 : F0 w1 w10 := f19.trans f10
 refine Ac V V (Cn V V V (Cn V V V (Ah V V (Ah V V (Ae ?_)))))
 refine Af (B9 (ι := Unit) (fun _ => [(0, .slice (some ⟨b, o, none⟩) bs.length cap), (2, ptr B), (3, .int .i64 0), (9, ptr w8.heap.size), (131, .bool (!decide (CH t = some bs)))]) (fun _ w' => w' = w10) ?_ ?_)
 · refine Aa (Ac V V ?_)
   cases hen : CH t with
   | none =>
    refine Al V V (BO (c := true) (by simp)) V (Ac V V ?_)
    refine B6 (j := 2) V V V V V (B6 (j := 2) V V V V V (B6 (j := 2) V V V V V (B6 (j := 2) V V V V V (B6 (j := 2) V V V V V (AI V V V (A2 fun a ha => Ad ⟨(), ha.weak ⟨rfl, rfl, rfl, rfl, congrArg (fun b => some (Value.bool b)) (by simp), trivial⟩, rfl⟩))))))
   | some es =>
    rw [hen] at hb10
    refine Al V V (BO (c := false) (by simp)) V (Ac V V ?_)
    refine Ag (j := 2) V V V (Ac V V (Ag (j := 2) V V V (AJ V (Cx hb10) V (Ag (j := 2) V V V (Ac V V (Ag (j := 2) V V V (AJ V (Cx (hB1.keep0 f110)) V (Ag (j := 2) V V V (Dh V V Du V (AI V V V (A2 fun a ha => Ad ⟨(), ha.weak ⟨rfl, rfl, rfl, rfl, congrArg (fun b => some (Value.bool b)) ?_, trivial⟩, rfl⟩)))))))))))
    congr 1
    refine decide_eq_decide.2 ⟨fun e => ?_, fun e => ?_⟩
    · have := congrArg (fun x : ByteArray => x.data.toList) e
      simpa using this
    · simp only [Option.some.injEq] at e; simp [e]
 rintro _ w10 rfl
 refine AK V (fun ht => ?_) (fun hf => A_ fun a ha => Ad ?_)
 · have hno : ¬ CH t = some bs := fun e => by simp [e] at ht
   exact Af (Aa (Cl V Db V (An V V (stE f110) (Ah V V (Ae (AA fun a ha => Ao (early f110 (hd5 fun u d => hno (law u d).2.2) ha V V)))))))
 have hen : CH t = some bs := by simpa using hf
 have b10 : Blk _ _ _ _ := kb f10 b9
 have hBk := kb f110 a1
 have stR := EW hBk rfl hone.1 hone.2
 have h1w : B < w1.heap.size := hBl
 have hs17 := (f2.trans (back f7)).size
 have rR : Rep (w10.setRow B cs.toArray) (fun b => w.heap.size ≤ b) t (.st .sheet) cs := Rep.agree (fun k hk hl => ⟨by rw [← hBd]; omega, by simpa using hl, setRow_other _ _ _ _ (by omega)⟩) _ _ _ (r9.fresh f10)
 refine A8 ha (Af (Aa (Ai V (Bg EE hone.1 b10.all) V (An V V stR (Ah V V (Ae (AA fun a ha => ?_)))))))
 refine MN V ha V V (Bg Qb hone.1 (hBk.setRow _).all) ⟨cs, 0, rfl, ?_, .inl ⟨t, If (Rep.kd _ _ _ r8) hen, rfl, rR⟩⟩
 have f13 := f1.trans f110
 exact ⟨f13.os, f13.tape, f13.output, by simpa using f13.size, fun k hk _ => by rw [setRow_other _ _ _ _ (by omega), Fr.blk f13 k hk (fun h => h)], fun _ h => h.elim⟩
end Go.Sx
