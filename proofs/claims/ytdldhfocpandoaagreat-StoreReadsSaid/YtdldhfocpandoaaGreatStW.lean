import Derived.Test.YtdldhfocpandoaaGreatStV
import Derived.Test.YtdldhfocpandoaaGreatStK
set_option maxHeartbeats 8000000
set_option maxRecDepth 8000
namespace Go.Sx
open Go.Proofs Go.Proofs.Tryz
structure DQ (n0 p : Nat) (full : List UInt8) (c tid : Nat) (sn : SN) (wa : World) (q : QS) (C : List Value) (q1 : QS) (w : World) : Prop where
 st : QSt n0 p full q1 w
 nest : q1.nest = q.nest + 1
 tab : q1.tab = q.tab
 fr : Fr (only p) wa (fun b => b = p ∨ wa.heap.size ≤ b) w
 c0 : wa.heap.size ≤ c
 blk : Blk w c C tid
 base : n0 ≤ wa.heap.size
 len : C.length = sn.size
 one : ∀ x ∈ C, x.oneCell' = true
 rep : ∃ t, Rep w (fun b => wa.heap.size ≤ b ∧ b ≠ c) t (.st sn) C ∧ Ik (.st sn) q { q1 with nest := q.nest } t ∧ Fits (.st sn) q { q1 with nest := q.nest } t
section
variable {n0 p c tid : Nat} {full : List UInt8} {sn : SN} {wa w : World} {q q1 : QS} {C : List Value}
theorem I2 (h : q.dn.bad = false) : q.bad = false ∧ q.nest ≤ 999 := by
 have hd : q.dn.bad = (q.bad || decide (1000 < q.nest + 1)) := rfl
 rw [hd, Bool.or_eq_false_iff] at h
 exact ⟨h.1, by have := of_decide_eq_false h.2; omega⟩
theorem PA (h : q.dn.bad = true) : q.bad = true ∨ 1000 < q.nest + 1 := by
 have hd : q.dn.bad = (q.bad || decide (1000 < q.nest + 1)) := rfl
 rw [hd, Bool.or_eq_true] at h
 exact h.imp id of_decide_eq_true
theorem DQ.zero (h : QSt n0 p full q.dn w) (hb : q.dn.bad = true) (hn : q.nest ≤ 1000) (hf : Fr (only p) wa (fun b => b = p ∨ wa.heap.size ≤ b) w) (c0 : wa.heap.size ≤ c) (blk : Blk w c C tid) (base : n0 ≤ wa.heap.size) (hd : sn.deep = true) (hl : C.length = sn.size)
 (h1 : ∀ x ∈ C, x.oneCell' = true) {t : T} (hr : ∀ (w : World) (S : Nat → Prop), Rep w S t (.st sn) C) (hw : t.wt ≤ 3009) : DQ n0 p full c tid sn wa q C q.dn w := by
 have hz := NP sn
 refine ⟨h, rfl, rfl, hf, c0, blk, base, hl, h1, t, hr _ _, ⟨fun _ => ⟨hb, rfl, by simp only [zw]; omega⟩, fun _ h' => ?_, fun _ _ => ?_⟩, ?_⟩
 · have h' : q.dn.bad = false := h'
   rw [hb] at h'; cases h'
 · show t.wt + 3010 * q.rest.length ≤ 3010 * q.rest.length + IA (.st sn) q.nest
   unfold IA; omega
 · rcases PA hb with h | h
   · exact Fits.bad h
   · exact Lb hd h
theorem DQ.whole {sz : List Nat} {cells chunks : List (List Value)} (M : MQ n0 p full c tid sz sn.fields 7 wa q.dn sn.fields.length cells chunks q1 w) (hd : sn.deep = true) (hc : chunks = cells) (hb : q.dn.bad = false) : DQ n0 p full c tid sn wa q chunks.flatten q1 w := by
 obtain ⟨hl, h1, l, hll, hcost, hF, hrep⟩ := M.val hc
 obtain ⟨hqb, hqn⟩ := I2 hb
 exact ⟨M.st, M.nest, M.tab, M.fr, M.c0, M.blk, M.base, hl, h1, .agg sn l, hrep, hcost.deep hd hll hqb hb V V hqn V V, hF.deep hd hll hb V V V V V V V⟩
theorem DQ.finish (D : DQ n0 p full c tid sn wa q C q1 w) {w00 : World} (f0 : F0 w00 wa) (hn : n0 ≤ w00.heap.size) {c2 : Nat} {Z : List Value} (h2 : w00.heap.size ≤ c2) (hb2 : Blk wa c2 Z tid) (hty : By prog tid true sn.size) (hZ : Z.length = sn.size) (hq : q.nest ≤ 1000) :
 ∃ w', (loadVar 3 ⟨p, 3, none⟩).run prog w = .ok (.int .i64 ((q.nest + 1 : Nat) : Int)) w ∧ (storeVar 3 ⟨p, 3, none⟩ (.int .i64 ((q.nest : Nat) : Int))).run prog w = .ok () w' ∧ (loadVar tid ⟨c, 0, none⟩).run prog w' = .ok (.agg C.toArray) w' ∧
 (storeVar tid ⟨c2, 0, none⟩ (.agg C.toArray)).run prog w' = .ok () (w'.setRow c2 C.toArray) ∧ (loadVar tid ⟨c2, 0, none⟩).run prog (w'.setRow c2 C.toArray) = .ok (.agg C.toArray) (w'.setRow c2 C.toArray) ∧ QGood n0 p full (.st sn) q w00 (.agg C.toArray) (w'.setRow c2 C.toArray) := by
 obtain ⟨vb, vt, m⟩ := D.st.mem
 obtain ⟨t, hrep, hcost, hfits⟩ := D.rep
 have hlt := hb2.lt
 have hlp := D.st.lp
 have hc0 := D.c0
 have hbase := D.base
 have hcp : c ≠ p := by omega
 have hst1 : (storeVar 3 ⟨p, 3, none⟩ (.int .i64 ((q.nest : Nat) : Int))).run prog w = .ok () (w.setRow p [vb, .int .i64 ((full.length - q1.rest.length : Nat) : Int), vt, .int .i64 ((q.nest : Nat) : Int), .bool q1.bad].toArray) := Fg m.blk ET rfl rfl (by simp) rfl
 have h1 : QSt n0 p full { q1 with nest := q.nest } (w.setRow p [vb, .int .i64 ((full.length - q1.rest.length : Nat) : Int), vt, .int .i64 ((q.nest : Nat) : Int), .bool q1.bad].toArray) := D.st.set (q' := { q1 with nest := q.nest }) m rfl D.st.le D.st.suf (by show q.nest ≤ 1001; omega)
 have f1 : Fr (only p) w (only p) (w.setRow p [vb, .int .i64 ((full.length - q1.rest.length : Nat) : Int), vt, .int .i64 ((q.nest : Nat) : Int), .bool q1.bad].toArray) := Fr.setRow _ rfl
 have hl3 : (loadVar 3 ⟨p, 3, none⟩).run prog w = .ok (.int .i64 ((q.nest + 1 : Nat) : Int)) w := A4 ET (by rw [← D.nest]; exact m.blk.get V)
 generalize w.setRow p [vb, .int .i64 ((full.length - q1.rest.length : Nat) : Int), vt, .int .i64 ((q.nest : Nat) : Int), .bool q1.bad].toArray = w' at hst1 h1 f1
 have hbc : Blk w' c C tid := (f1.blk c D.blk.lt hcp).trans D.blk
 have hb : Blk w' c2 Z tid := ((D.fr.trans (f1.drop (fun b hb => .inl hb))).blk c2 hlt (fun e => by have : c2 = p := e; omega)).trans hb2
 have hcl := D.len
 have hst := BR (P := prog) (v := .agg C.toArray) hty rfl D.len D.one hb (o := 0) (by omega)
 rw [show Ch Z 0 C = C by simp [Ch, D.len, hZ]] at hst
 have hfr := D.fr.trans (f1.drop (fun b hb => .inl hb))
 have good : QGood n0 p full (.st sn) q wa (.agg C.toArray) w' := by
  refine ⟨t, { q1 with nest := q.nest }, C, rfl, Rep.agree (fun b hb hl => ⟨hb.1, Nat.lt_of_lt_of_le hl f1.size, f1.blk b hl (fun e => by have : b = p := e; omega)⟩) _ _ _ hrep, h1, ?_, rfl, D.tab, hcost, hfits⟩
  exact ⟨hfr.os, hfr.tape, hfr.output, hfr.size, fun b hb hn => hfr.blk b hb hn, fun b hb => .inl hb⟩
 exact ⟨w', hl3, hst1, Bg hty D.len hbc.all, hst, Bg hty D.len (hb.setRow _).all, good.put f0 hn h2 hlt _⟩
end
theorem No {q q1 q' q2 : QS} {l : List T} (h : FitsF exprFlat q1 q' l) {t0 t1 t2 t3 t4 t5 t6 t7 t8 t9 t10 : T} (hl : l = [t0, t1, t2, t3, t4, t5, t6, t7, t8, t9, t10]) (hb : q1.bad = false) (hr : q1.rest = q.rest) (ht : q1.tab = q.tab) (hn : q1.nest = q.nest + 1)
 (e1 : q2.bad = q'.bad) (e2 : q2.rest = q'.rest) (e3 : q2.tab = q'.tab) (e4 : q2.nest = q.nest) : Fits (.st .expr) q q2 (.agg .expr [t0, t1, t2, t3, .agg .atom [t4, t5], t6, t7, t8, t9, t10]) := by
 subst hl
 intro s hs u s' hu
 cases u <;> simp only [CK] at hu <;> try cases hu
 rename_i sn' l'
 split at hu
 · rename_i e
   subst e
   rw [show SN.expr.deep = true from rfl] at hu
   simp only at hu
   split at hu
   · cases hu
   · simp only [Option.map_eq_some_iff] at hu
     obtain ⟨s2, hu, rfl⟩ := hu
     obtain ⟨k1, k2, k3, k4⟩ := hs
     have hflat : ∃ x0 x1 x2 x3 x4 x5 x6 x7 x8 x9 x10, l' = [x0, x1, x2, x3, .agg .atom [x4, x5], x6, x7, x8, x9, x10] ∧ BT [x0, x1, x2, x3, x4, x5, x6, x7, x8, x9, x10] exprFlat { s with nest := s.nest + 1 } = some s2 := by
      have hll : l'.length = 10 := L7 _ _ _ _ hu
      match l', hll, hu with
      | [x0, x1, x2, x3, xa, x6, x7, x8, x9, x10], hxl, hu =>
       simp only [SN.fields, BT, Option.bind_eq_some_iff] at hu
       obtain ⟨u0, p0, u1, p1, u2, p2, u3, p3, u4, p4, u5, p5, u6, p6, u7, p7, u8, p8, u9, p9, p10⟩ := hu
       cases xa <;> simp only [CK] at p4 <;> try cases p4
       rename_i sa la
       split at p4
       · rename_i e
         subst e
         rw [show SN.atom.deep = false from rfl] at p4
         simp only [SN.fields] at p4
         match la, p4 with
         | [a, b], p4 =>
          simp only [BT, Option.bind_eq_some_iff] at p4
          obtain ⟨v, q4, v', q5, p4⟩ := p4
          simp only [Option.some.injEq] at p4; subst p4
          refine ⟨x0, x1, x2, x3, a, b, x6, x7, x8, x9, x10, rfl, ?_⟩
          simp only [exprFlat, BT, p0, p1, p2, p3, q4, q5, p5, p6, p7, p8, p9, Option.bind_some]
          exact p10
         | [], p4 => simp only [BT] at p4; cases p4
         | [a], p4 => simp only [BT, Option.bind_eq_some_iff] at p4; obtain ⟨_, _, h⟩ := p4; cases h
         | a :: b :: x :: y, p4 => simp only [BT, Option.bind_eq_some_iff] at p4; obtain ⟨_, _, _, _, h⟩ := p4; cases h
       · cases p4
     obtain ⟨x0, x1, x2, x3, x4, x5, x6, x7, x8, x9, x10, rfl, hF⟩ := hflat
     obtain ⟨r, s1, hx, h1, h2⟩ := h { s with nest := s.nest + 1 } ⟨hb, hr.trans k2, ht.trans k3, by rw [hn, k4]⟩ _ s2 hF
     have hr0 : r = [] := by
      have := congrArg List.length hx
      simp only [List.length_append, List.length_cons, List.length_nil] at this
      exact List.eq_nil_of_length_eq_zero (by omega)
     subst hr0
     rw [List.append_nil] at hx
     cases hx
     simp only [List.length_cons, List.length_nil, exprFlat, List.drop_succ_cons, List.drop_zero, BT, Option.some.injEq] at h2
     subst h2
     obtain ⟨j1, j2, j3, j4⟩ := h1
     exact ⟨rfl, e1.trans j1, e2.trans j2, e3.trans j3, e4.trans k4⟩
 · cases hu
theorem DQ.expr {n0 p c tid : Nat} {full : List UInt8} {wa w : World} {q q1 : QS} {sz : List Nat} {cells chunks : List (List Value)} (M : MQ n0 p full c tid sz exprFlat 7 wa q.dn 11 cells chunks q1 w) (hc : chunks = cells) (hb : q.dn.bad = false) : DQ n0 p full c tid .expr wa q chunks.flatten q1 w := by
 subst hc
 obtain ⟨hqb, hqn⟩ := I2 hb
 obtain ⟨l, hl, hr, hcost, hF⟩ := M.rep
 have hone := hr.one
 rw [show exprFlat.take 11 = exprFlat from rfl] at hr hcost
 have hblk := M.blk
 obtain ⟨t0, l, c0, chunks, rfl, rfl, r0, hr⟩ := hr.cons_inv
 obtain ⟨t1, l, c1, chunks, rfl, rfl, r1, hr⟩ := hr.cons_inv
 obtain ⟨t2, l, c2, chunks, rfl, rfl, r2, hr⟩ := hr.cons_inv
 obtain ⟨t3, l, c3, chunks, rfl, rfl, r3, hr⟩ := hr.cons_inv
 obtain ⟨t4, l, c4, chunks, rfl, rfl, r4, hr⟩ := hr.cons_inv
 obtain ⟨t5, l, c5, chunks, rfl, rfl, r5, hr⟩ := hr.cons_inv
 obtain ⟨t6, l, c6, chunks, rfl, rfl, r6, hr⟩ := hr.cons_inv
 obtain ⟨t7, l, c7, chunks, rfl, rfl, r7, hr⟩ := hr.cons_inv
 obtain ⟨t8, l, c8, chunks, rfl, rfl, r8, hr⟩ := hr.cons_inv
 obtain ⟨t9, l, c9, chunks, rfl, rfl, r9, hr⟩ := hr.cons_inv
 obtain ⟨t10, l, c10, chunks, rfl, rfl, r10, hr⟩ := hr.cons_inv
 obtain ⟨rfl, rfl⟩ := hr.nil_inv
 have ratom : Rep w (fun b => wa.heap.size ≤ b ∧ b ≠ c) (.agg .atom [t4, t5]) (.st .atom) (c4 ++ c5) := by
  have ha : RepC w (fun b => wa.heap.size ≤ b ∧ b ≠ c) [t4, t5] SN.atom.fields [c4, c5] := ⟨r4, r5, trivial⟩
  have hl : [c4, c5].flatten.length = SN.atom.size := by rw [En, ha.size, Dz]
  have hF := EQ [] ha
  simp only [List.flatten_cons, List.flatten_nil, List.append_nil, List.nil_append, List.length_nil] at hl hF
  simp only [Rep]
  exact ⟨trivial, hl, hF⟩
 have hall : RepC w (fun b => wa.heap.size ≤ b ∧ b ≠ c) [t0, t1, t2, t3, .agg .atom [t4, t5], t6, t7, t8, t9, t10] SN.expr.fields [c0, c1, c2, c3, c4 ++ c5, c6, c7, c8, c9, c10] :=
  ⟨r0, r1, r2, r3, ratom, r6, r7, r8, r9, r10, trivial⟩
 have hfl : [c0, c1, c2, c3, c4, c5, c6, c7, c8, c9, c10].flatten = [c0, c1, c2, c3, c4 ++ c5, c6, c7, c8, c9, c10].flatten := by simp
 have hlen : [c0, c1, c2, c3, c4, c5, c6, c7, c8, c9, c10].flatten.length = SN.expr.size := by rw [hfl, En, hall.size, Dz]
 refine ⟨M.st, M.nest, M.tab, M.fr, M.c0, hblk, M.base, hlen, hone, .agg .expr [t0, t1, t2, t3, .agg .atom [t4, t5], t6, t7, t8, t9, t10], ?_, ?_, No hF V hb V V V V V V V⟩
 · rw [hfl] at hlen ⊢
   have hF := EQ [] hall
   simp only [Rep]
   exact ⟨trivial, hlen, hF⟩
 · have hz : OH exprFlat = 19 := rfl
   have hlw : BA [t0, t1, t2, t3, .agg .atom [t4, t5], t6, t7, t8, t9, t10] = BA [t0, t1, t2, t3, t4, t5, t6, t7, t8, t9, t10] + 1 := by simp only [BA, T.wt]; omega
   refine ⟨fun h0 => (by rw [hqb] at h0; cases h0), fun _ h2 => ?_, fun _ h2 => ?_⟩
   · have a := hcost.g hb h2
     simp only [List.length_cons, List.length_nil] at a
     show T.wt (.agg .expr _) + 1 + 3010 * q1.rest.length ≤ 3010 * q.rest.length
     have a' : BA [t0, t1, t2, t3, t4, t5, t6, t7, t8, t9, t10] + 11 + 3010 * q1.rest.length ≤ 3010 * q.rest.length := a
     simp only [T.wt] at hlw ⊢
     omega
   · have a := hcost.b hb h2
     rw [hz] at a
     have a' : BA [t0, t1, t2, t3, t4, t5, t6, t7, t8, t9, t10] + 3010 * q1.rest.length ≤ 3010 * q.rest.length + 300900 * 7 + 3009000 * (1001 - (q.nest + 1)) + 3009 * 19 := a
     show T.wt (.agg .expr _) + 3010 * q1.rest.length ≤ 3010 * q.rest.length + IA (.st .expr) q.nest
     simp only [T.wt, IA, IX, IR] at hlw ⊢
     omega
end Go.Sx
namespace Go.Sx
open Go.Proofs Go.Proofs.Tryz
theorem Nn : ∀ x ∈ CF Cz, x.oneCell' = true := by decide
theorem M7 : ∀ x ∈ C5 Cz, x.oneCell' = true := by decide
theorem RR {n0 p k : Nat} {full : List UInt8} (hk0 : k ≤ 1000) (hX0 : k + 1 ≤ 1000 → Cq n0 p full 83 (.st .expr) (k + 1)) : Cq n0 p full 83 (.st .expr) k := by
 intro q w h hk
 refine AB 49 func83 V V V ?_
 refine Af (Aa (AO (z := .agg (CF Cz).toArray) (zeroValue66 _) V (Ae ?_)))
 have f1 : F0 w (w.alloc (.cells ((CF Cz) : List Value).toArray 66)) := Fr.alloc _ _ _
 have b1 : Blk (w.alloc (.cells ((CF Cz) : List Value).toArray 66)) w.heap.size (CF Cz) 66 := AN
 show W _ _ _ _ _ _ (w.alloc (.cells ((CF Cz) : List Value).toArray 66))
 generalize w.alloc (.cells ((CF Cz) : List Value).toArray 66) = w1 at f1 b1 ⊢
 have h1 : QSt n0 p full q w1 := h.keep f1 (fun _ h => h.elim)
 refine Af (Aa (AO (z := .agg (CF Cz).toArray) (zeroValue66 _) V (Ar [(0, ptr p), (2, ptr w.heap.size), (3, ptr w1.heap.size)] ⟨V, V, V, trivial⟩ ?_)))
 have f2 : F0 w1 (w1.alloc (.cells ((CF Cz) : List Value).toArray 66)) := Fr.alloc _ _ _
 have b2 : Blk (w1.alloc (.cells ((CF Cz) : List Value).toArray 66)) w1.heap.size (CF Cz) 66 := AN
 show W _ _ _ _ _ _ (w1.alloc (.cells ((CF Cz) : List Value).toArray 66))
 generalize w1.alloc (.cells ((CF Cz) : List Value).toArray 66) = w2 at f2 b2 ⊢
 have h2 : QSt n0 p full q w2 := h1.keep f2 (fun _ h => h.elim)
 have hne : w1.heap.size ≠ p := fun e => by have := h1.lp; have := h1.ln; omega
 refine B9 (ι := List Value × QS) (fun _ => [(0, ptr p), (2, ptr w.heap.size), (3, ptr w1.heap.size)]) (fun j w' => DQ n0 p full w1.heap.size 66 .expr w1 q j.1 j.2 w') ?_ ?_
 · refine Af (Aa (Ac V V (Aj call76 V V (Rz h2 (by omega)) ?_ Be)))
   rintro _ w3 ⟨rfl, h3, f3⟩
   have b3 : Blk w3 w1.heap.size (CF Cz) 66 := (f3.blk _ b2.lt hne).trans b2
   have hk1 : q.dn.nest = k + 1 := congrArg (· + 1) hk
   have f13 : Fr (only p) w1 (fun b => b = p ∨ w1.heap.size ≤ b) w3 := by
    have f := (f2.drop (O := only p) (fun _ h => h.elim)).trans f3
    exact ⟨f.os, f.tape, f.output, f.size, f.blk, fun b hb => hb⟩
   cases hb : q.dn.bad with
   | true => exact Ae (A9 V (A_ fun a ha => Ad ⟨((CF Cz), q.dn), ha.weak ⟨V, V, V, trivial⟩, DQ.zero h3 hb (by omega) f13 (Nat.le_refl _) b3 h1.ln V V Nn (t := KG []) (fun w S => rep_expr (by simp only [Rep, Cz, Jc, true_and, true_or])) (by decide)⟩))
   | false =>
   refine Ae (Ax V (Dc [(0, ptr p), (2, ptr w.heap.size), (3, ptr w1.heap.size)] ⟨V, V, V, trivial⟩ ?_))
   have hkk : k + 1 ≤ 1000 := by have := (I2 hb).2; omega
   have hX := hX0 hkk
   have M := MQ.start (c := w1.heap.size) (tid := 66) (sz := [1, 1, 1, 1, 1, 1, 1, 2, 5, 1, 1]) (all := exprFlat) (R := 7) (wa := w1) (Z := (CF Cz)) h3 rfl b3 (Nat.le_refl _) h1.ln f13
   refine Af (Aa (Ac V V (Aj call86 V V (J4 _ _ M.st (M.nest.trans hk1)) ?_ Be)))
   intro _ w3 g
   obtain ⟨c1, q2, rfl, M, H⟩ := M.read rfl (by decide) g
   obtain ⟨w4, hst, M⟩ := M.store (off := 0) 0 H Cj rfl rfl
   refine Ab V (HR _ _ _) V (An V V hst (Ar [(0, ptr p), (2, ptr w.heap.size), (3, ptr w1.heap.size)] ⟨V, V, V, trivial⟩ ?_))
   refine Af (Aa (Ac V V (Aj call77 V V (Fe _ _ M.st (M.nest.trans hk1)) ?_ Be)))
   intro _ w7 g
   obtain ⟨c5, q6, rfl, M, H⟩ := M.read rfl (by decide) g
   obtain ⟨w8, hst, M⟩ := M.store (off := 1) 1 H Cc rfl rfl
   refine Ab V (Ie _ _ _) V (An V V hst (Ar [(0, ptr p), (2, ptr w.heap.size), (3, ptr w1.heap.size)] ⟨V, V, V, trivial⟩ ?_))
   refine Af (Aa (Ac V V (Aj call77 V V (Fe _ _ M.st (M.nest.trans hk1)) ?_ Be)))
   intro _ w11 g
   obtain ⟨c9, q10, rfl, M, H⟩ := M.read rfl (by decide) g
   obtain ⟨w12, hst, M⟩ := M.store (off := 2) 2 H Cc rfl rfl
   refine Ab V (HV _ _ _) V (An V V hst (Ar [(0, ptr p), (2, ptr w.heap.size), (3, ptr w1.heap.size)] ⟨V, V, V, trivial⟩ ?_))
   refine Af (Aa (Ac V V (Aj call86 V V (J4 _ _ M.st (M.nest.trans hk1)) ?_ Be)))
   intro _ w15 g
   obtain ⟨QA, q14, rfl, M, H⟩ := M.read rfl (by decide) g
   obtain ⟨w16, hst, M⟩ := M.store (off := 3) 3 H Cj rfl rfl
   refine Ab V (HA _ _ _) V (An V V hst (Ar [(0, ptr p), (2, ptr w.heap.size), (3, ptr w1.heap.size)] ⟨V, V, V, trivial⟩ ?_))
   refine Af (Aa (Ac V V (Aj call86 V V (J4 _ _ M.st (M.nest.trans hk1)) ?_ Be)))
   intro _ w19 g
   obtain ⟨c17, q18, rfl, M, H⟩ := M.read rfl (by decide) g
   obtain ⟨w20, hst, M⟩ := M.store (off := 4) 4 H Cj rfl rfl
   refine Ab V (EA _ _ _) V (Ab V (J9 _ _ _) V (An V V hst (Ar [(0, ptr p), (2, ptr w.heap.size), (3, ptr w1.heap.size)] ⟨V, V, V, trivial⟩ ?_)))
   refine Af (Aa (Ac V V (Aj call77 V V (Fe _ _ M.st (M.nest.trans hk1)) ?_ Be)))
   intro _ w23 g
   obtain ⟨c21, q22, rfl, M, H⟩ := M.read rfl (by decide) g
   obtain ⟨w24, hst, M⟩ := M.store (off := 5) 5 H Cc rfl rfl
   refine Ab V (EA _ _ _) V (Ab V (JE _ _ _) V (An V V hst (Ar [(0, ptr p), (2, ptr w.heap.size), (3, ptr w1.heap.size)] ⟨V, V, V, trivial⟩ ?_)))
   refine Af (Aa (Ac V V (Aj call86 V V (J4 _ _ M.st (M.nest.trans hk1)) ?_ Be)))
   intro _ w27 g
   obtain ⟨c25, q26, rfl, M, H⟩ := M.read rfl (by decide) g
   obtain ⟨w28, hst, M⟩ := M.store (off := 6) 6 H Cj rfl rfl
   refine Ab V (HO _ _ _) V (An V V hst (Ar [(0, ptr p), (2, ptr w.heap.size), (3, ptr w1.heap.size)] ⟨V, V, V, trivial⟩ ?_))
   refine Af (Aa (Ac V V (Aj call134 V V (Q_ _ _ M.st (M.nest.trans hk1)) ?_ Be)))
   intro _ w31 g
   obtain ⟨RO, q30, rfl, M, H⟩ := M.read rfl (by decide) g
   obtain ⟨w32, hst, M⟩ := M.store (off := 7) 7 H IL rfl rfl
   refine Ab V (Hw _ _ _) V (An V V hst (Ar [(0, ptr p), (2, ptr w.heap.size), (3, ptr w1.heap.size)] ⟨V, V, V, trivial⟩ ?_))
   refine Af (Aa (Ac V V (Aj call133 V V (IU _ _ M.st (M.nest.trans hk1)) ?_ Be)))
   intro _ w35 g
   obtain ⟨JX, q34, rfl, M, H⟩ := M.read rfl (by decide) g
   obtain ⟨w36, hst, M⟩ := M.store (off := 9) 8 H D9 rfl rfl
   refine Ab V (HW _ _ _) V (An V V hst (Ar [(0, ptr p), (2, ptr w.heap.size), (3, ptr w1.heap.size)] ⟨V, V, V, trivial⟩ ?_))
   refine Af (Aa (Ac V V (Aj call87 V V (QR _ _ M.st (M.nest.trans hk1)) ?_ Be)))
   intro _ w39 g
   obtain ⟨c37, q38, rfl, M, H⟩ := M.read rfl (by decide) g
   obtain ⟨w40, hst, M⟩ := M.store (off := 14) 9 H D_ rfl rfl
   refine Ab V (EB _ _ _) V (An V V hst (Ar [(0, ptr p), (2, ptr w.heap.size), (3, ptr w1.heap.size)] ⟨V, V, V, trivial⟩ ?_))
   refine Aa (Ac V V (Aj call82 V V ((QC hX) _ _ M.st (M.nest.trans hk1)) ?_ Be))
   intro _ w43 g
   obtain ⟨c41, q42, rfl, M, H⟩ := M.read rfl (by decide) g
   obtain ⟨w44, hst, M⟩ := M.store (off := 15) 10 H Eh rfl rfl
   refine Ab V (E_ _ _ _) V (An V V hst (A2 fun a ha => Ad ⟨(_, _), ha.weak ⟨V, V, V, trivial⟩, DQ.expr M V hb⟩))
 · rintro ⟨C, q1⟩ w8 D
   simp only at D ⊢
   obtain ⟨w9, u1, u2, u3, u4, u5, u6⟩ := D.finish f1 h.ln (Nat.le_refl _) b1 BY rfl (by omega)
   refine Af (Aa (Ac V V (As V V (Ab V (DS _ _ _) V (Ai V u1 V (Al (v := .int .i64 ((q.nest : Nat) : Int)) V V ?_ V (As V V (Ab V (DS _ _ _) V (An V V u2 (Ae ?_))))))))))
   · have := EH (w := w8) (t := 3) (a := ((q.nest + 1 : Nat) : Int)) (b := 1) (by unfold Bu; omega)
     rwa [show ((q.nest + 1 : Nat) : Int) - 1 = ((q.nest : Nat) : Int) by omega] at this
   exact Af (Aa (Ai V u3 V (An V V u4 (Ae (AA fun a ha => BE V ha V u5 u6)))))
theorem PI {n0 p k : Nat} {full : List UInt8} (hk0 : k ≤ 1000) (hX0 : k + 1 ≤ 1000 → Cq n0 p full 83 (.st .expr) (k + 1)) (hI0 : k + 1 ≤ 1000 → Cq n0 p full 198 (.st .instr) (k + 1)) : Cq n0 p full 198 (.st .instr) k := by
 intro q w h hk
 refine AB 136 func198 V V V ?_
 refine Af (Aa (AO (z := .agg (C5 Cz).toArray) (zeroValue72 _) V (Ae ?_)))
 have f1 : F0 w (w.alloc (.cells ((C5 Cz) : List Value).toArray 72)) := Fr.alloc _ _ _
 have b1 : Blk (w.alloc (.cells ((C5 Cz) : List Value).toArray 72)) w.heap.size (C5 Cz) 72 := AN
 show W _ _ _ _ _ _ (w.alloc (.cells ((C5 Cz) : List Value).toArray 72))
 generalize w.alloc (.cells ((C5 Cz) : List Value).toArray 72) = w1 at f1 b1 ⊢
 have h1 : QSt n0 p full q w1 := h.keep f1 (fun _ h => h.elim)
 refine Af (Aa (AO (z := .agg (C5 Cz).toArray) (zeroValue72 _) V (Ar [(0, ptr p), (2, ptr w.heap.size), (3, ptr w1.heap.size)] ⟨V, V, V, trivial⟩ ?_)))
 have f2 : F0 w1 (w1.alloc (.cells ((C5 Cz) : List Value).toArray 72)) := Fr.alloc _ _ _
 have b2 : Blk (w1.alloc (.cells ((C5 Cz) : List Value).toArray 72)) w1.heap.size (C5 Cz) 72 := AN
 show W _ _ _ _ _ _ (w1.alloc (.cells ((C5 Cz) : List Value).toArray 72))
 generalize w1.alloc (.cells ((C5 Cz) : List Value).toArray 72) = w2 at f2 b2 ⊢
 have h2 : QSt n0 p full q w2 := h1.keep f2 (fun _ h => h.elim)
 have hne : w1.heap.size ≠ p := fun e => by have := h1.lp; have := h1.ln; omega
 refine B9 (ι := List Value × QS) (fun _ => [(0, ptr p), (2, ptr w.heap.size), (3, ptr w1.heap.size)]) (fun j w' => DQ n0 p full w1.heap.size 72 .instr w1 q j.1 j.2 w') ?_ ?_
 · refine Af (Aa (Ac V V (Aj call76 V V (Rz h2 (by omega)) ?_ Be)))
   rintro _ w3 ⟨rfl, h3, f3⟩
   have b3 : Blk w3 w1.heap.size (C5 Cz) 72 := (f3.blk _ b2.lt hne).trans b2
   have hk1 : q.dn.nest = k + 1 := congrArg (· + 1) hk
   have f13 : Fr (only p) w1 (fun b => b = p ∨ w1.heap.size ≤ b) w3 := by
    have f := (f2.drop (O := only p) (fun _ h => h.elim)).trans f3
    exact ⟨f.os, f.tape, f.output, f.size, f.blk, fun b hb => hb⟩
   cases hb : q.dn.bad with
   | true => exact Ae (A9 V (A_ fun a ha => Ad ⟨((C5 Cz), q.dn), ha.weak ⟨V, V, V, trivial⟩, DQ.zero h3 hb (by omega) f13 (Nat.le_refl _) b3 h1.ln V V M7 (t := Mt []) (fun w S => Nj (by simp only [Rep, Cz, Jc, true_and, true_or])) (by decide)⟩))
   | false =>
   refine Ae (Ax V (Dc [(0, ptr p), (2, ptr w.heap.size), (3, ptr w1.heap.size)] ⟨V, V, V, trivial⟩ ?_))
   have hkk : k + 1 ≤ 1000 := by have := (I2 hb).2; omega
   have hX := hX0 hkk
   have hI := hI0 hkk
   have M := MQ.start (c := w1.heap.size) (tid := 72) (sz := [1, 1, 1, 1, 1, 1, 16, 16, 5, 1, 1, 1, 1, 1, 1, 1, 1]) (all := (SN.fields .instr)) (R := 7) (wa := w1) (Z := (C5 Cz)) h3 rfl b3 (Nat.le_refl _) h1.ln f13
   refine Af (Aa (Ac V V (Aj call86 V V (J4 _ _ M.st (M.nest.trans hk1)) ?_ Be)))
   intro _ w47 g
   obtain ⟨c45, q46, rfl, M, H⟩ := M.read rfl (by decide) g
   obtain ⟨w48, hst, M⟩ := M.store (off := 0) 0 H Cj rfl rfl
   refine Ab V (Id _ _ _) V (An V V hst (Ar [(0, ptr p), (2, ptr w.heap.size), (3, ptr w1.heap.size)] ⟨V, V, V, trivial⟩ ?_))
   refine Af (Aa (Ac V V (Aj call77 V V (Fe _ _ M.st (M.nest.trans hk1)) ?_ Be)))
   intro _ w51 g
   obtain ⟨c49, q50, rfl, M, H⟩ := M.read rfl (by decide) g
   obtain ⟨w52, hst, M⟩ := M.store (off := 1) 1 H Cc rfl rfl
   refine Ab V (HX _ _ _) V (An V V hst (Ar [(0, ptr p), (2, ptr w.heap.size), (3, ptr w1.heap.size)] ⟨V, V, V, trivial⟩ ?_))
   refine Af (Aa (Ac V V (Aj call77 V V (Fe _ _ M.st (M.nest.trans hk1)) ?_ Be)))
   intro _ w55 g
   obtain ⟨Mi, q54, rfl, M, H⟩ := M.read rfl (by decide) g
   obtain ⟨w56, hst, M⟩ := M.store (off := 2) 2 H Cc rfl rfl
   refine Ab V (Ib _ _ _) V (An V V hst (Ar [(0, ptr p), (2, ptr w.heap.size), (3, ptr w1.heap.size)] ⟨V, V, V, trivial⟩ ?_))
   refine Af (Aa (Ac V V (Aj call242 V V ((Qm hX) _ _ M.st (M.nest.trans hk1)) ?_ Be)))
   intro _ w59 g
   obtain ⟨Mj, q58, rfl, M, H⟩ := M.read rfl (by decide) g
   obtain ⟨w60, hst, M⟩ := M.store (off := 3) 3 H J2 rfl rfl
   refine Ab V (HZ _ _ _) V (An V V hst (Ar [(0, ptr p), (2, ptr w.heap.size), (3, ptr w1.heap.size)] ⟨V, V, V, trivial⟩ ?_))
   refine Af (Aa (Ac V V (Aj call242 V V ((Qm hX) _ _ M.st (M.nest.trans hk1)) ?_ Be)))
   intro _ w63 g
   obtain ⟨Mg, q62, rfl, M, H⟩ := M.read rfl (by decide) g
   obtain ⟨w64, hst, M⟩ := M.store (off := 4) 4 H J2 rfl rfl
   refine Ab V (HL _ _ _) V (An V V hst (Ar [(0, ptr p), (2, ptr w.heap.size), (3, ptr w1.heap.size)] ⟨V, V, V, trivial⟩ ?_))
   refine Af (Aa (Ac V V (Aj call85 V V (IS _ _ M.st (M.nest.trans hk1)) ?_ Be)))
   intro _ w67 g
   obtain ⟨Mk, q66, rfl, M, H⟩ := M.read rfl (by decide) g
   obtain ⟨w68, hst, M⟩ := M.store (off := 5) 5 H Dp rfl rfl
   refine Ab V (HN _ _ _) V (An V V hst (Ar [(0, ptr p), (2, ptr w.heap.size), (3, ptr w1.heap.size)] ⟨V, V, V, trivial⟩ ?_))
   refine Af (Aa (Ac V V (Aj call83 V V (hX _ _ M.st (M.nest.trans hk1)) ?_ Be)))
   intro _ w71 g
   obtain ⟨Me, q70, rfl, M, H⟩ := M.read rfl (by decide) g
   obtain ⟨w72, hst, M⟩ := M.store (off := 6) 6 H BY rfl rfl
   refine Ab V (Ic _ _ _) V (An V V hst (Ar [(0, ptr p), (2, ptr w.heap.size), (3, ptr w1.heap.size)] ⟨V, V, V, trivial⟩ ?_))
   refine Af (Aa (Ac V V (Aj call83 V V (hX _ _ M.st (M.nest.trans hk1)) ?_ Be)))
   intro _ w75 g
   obtain ⟨Ml, q74, rfl, M, H⟩ := M.read rfl (by decide) g
   obtain ⟨w76, hst, M⟩ := M.store (off := 22) 7 H BY rfl rfl
   refine Ab V (HB _ _ _) V (An V V hst (Ar [(0, ptr p), (2, ptr w.heap.size), (3, ptr w1.heap.size)] ⟨V, V, V, trivial⟩ ?_))
   refine Af (Aa (Ac V V (Aj call133 V V (IU _ _ M.st (M.nest.trans hk1)) ?_ Be)))
   intro _ w79 g
   obtain ⟨Fe, q78, rfl, M, H⟩ := M.read rfl (by decide) g
   obtain ⟨w80, hst, M⟩ := M.store (off := 38) 8 H D9 rfl rfl
   refine Ab V (HM _ _ _) V (An V V hst (Ar [(0, ptr p), (2, ptr w.heap.size), (3, ptr w1.heap.size)] ⟨V, V, V, trivial⟩ ?_))
   refine Af (Aa (Ac V V (Aj call243 V V ((PR hX) _ _ M.st (M.nest.trans hk1)) ?_ Be)))
   intro _ w83 g
   obtain ⟨Mf, q82, rfl, M, H⟩ := M.read rfl (by decide) g
   obtain ⟨w84, hst, M⟩ := M.store (off := 43) 9 H J1 rfl rfl
   refine Ab V (Ht _ _ _) V (An V V hst (Ar [(0, ptr p), (2, ptr w.heap.size), (3, ptr w1.heap.size)] ⟨V, V, V, trivial⟩ ?_))
   refine Af (Aa (Ac V V (Aj call131 V V ((PG hX hI) _ _ M.st (M.nest.trans hk1)) ?_ Be)))
   intro _ w87 g
   obtain ⟨IS, q86, rfl, M, H⟩ := M.read rfl (by decide) g
   obtain ⟨w88, hst, M⟩ := M.store (off := 44) 10 H GT rfl rfl
   refine Ab V (Gb _ _ _) V (An V V hst (Ar [(0, ptr p), (2, ptr w.heap.size), (3, ptr w1.heap.size)] ⟨V, V, V, trivial⟩ ?_))
   refine Af (Aa (Ac V V (Aj call33 V V (JX M.st) ?_ Be)))
   intro v1 wl89 g1
   obtain ⟨n89, ql89, rfl, L0, hlen89, fl⟩ := LQ.start (X := fun b => b = p ∨ b = w1.heap.size) (e := .st .source) (tid := 290) M.st (.inl rfl) (fun b hb => hb.elim (fun e => e ▸ Nat.lt_of_lt_of_le M.st.lp M.st.ln) (fun e => e ▸ M.blk.lt)) g1
   have B0 : Blk wl89 w1.heap.size (((((((((((((CN [1, 1, 1, 1, 1, 1, 16, 16, 5, 1, 1, 1, 1, 1, 1, 1, 1] (C5 Cz)).set 0 c45).set 1 c49).set 2 Mi).set 3 Mj).set 4 Mg).set 5 Mk).set 6 Me).set 7 Ml).set 8 Fe).set 9 Mf).set 10 IS).set 11 [.slice none 0 0]).flatten 72 := (fl.blk _ M.blk.lt M.ne).trans M.blk
   have hcell89 : ∀ {w' : World} {v : Value}, Blk w' w1.heap.size (((((((((((((CN [1, 1, 1, 1, 1, 1, 16, 16, 5, 1, 1, 1, 1, 1, 1, 1, 1] (C5 Cz)).set 0 c45).set 1 c49).set 2 Mi).set 3 Mj).set 4 Mg).set 5 Mk).set 6 Me).set 7 Ml).set 8 Fe).set 9 Mf).set 10 IS).set 11 [v]).flatten 72 → w'.cell? ⟨w1.heap.size, 45, none⟩ = some v := fun {w' v} b => b.get (CS (((((((((((((CN [1, 1, 1, 1, 1, 1, 16, 16, 5, 1, 1, 1, 1, 1, 1, 1, 1] (C5 Cz)).set 0 c45).set 1 c49).set 2 Mi).set 3 Mj).set 4 Mg).set 5 Mk).set 6 Me).set 7 Ml).set 8 Fe).set 9 Mf).set 10 IS).set 11 [v]) [1, 1, 1, 1, 1, 1, 16, 16, 5, 1, 1, 1, 1, 1, 1, 1, 1] 11 v (C1 ((((((((((((CN [1, 1, 1, 1, 1, 1, 16, 16, 5, 1, 1, 1, 1, 1, 1, 1, 1] (C5 Cz)).set 0 c45).set 1 c49).set 2 Mi).set 3 Mj).set 4 Mg).set 5 Mk).set 6 Me).set 7 Ml).set 8 Fe).set 9 Mf).set 10 IS) [1, 1, 1, 1, 1, 1, 16, 16, 5, 1, 1, 1, 1, 1, 1, 1, 1] 11 [v] M.len rfl).2.1 rfl)
   obtain ⟨bytes, hei89, hby89⟩ : ∃ bytes, Ck prog 290 (Ty.size (.st .source)) bytes ∧ bytes ≤ 4096 := B7 (by kernel_rfl)
   refine Ah V V (Ar [(0, ptr p), (2, ptr w.heap.size), (3, ptr w1.heap.size), (4, .int .i64 ((n89 : Nat) : Int))] ⟨V, V, V, V, trivial⟩ ?_)
   refine B9 (ι := Value × World) (fun _ => [(0, ptr p), (2, ptr w.heap.size), (3, ptr w1.heap.size)]) (fun j w' => w' = j.2 ∧ ∃ q', MQ n0 p full w1.heap.size 72 [1, 1, 1, 1, 1, 1, 16, 16, 5, 1, 1, 1, 1, 1, 1, 1, 1] (SN.fields .instr) 7 w1 q.dn 12 (((((((((((([] ++ [c45]) ++ [c49]) ++ [Mi]) ++ [Mj]) ++ [Mg]) ++ [Mk]) ++ [Me]) ++ [Ml]) ++ [Fe]) ++ [Mf]) ++ [IS]) ++ [[j.1]]) (((((((((((((CN [1, 1, 1, 1, 1, 1, 16, 16, 5, 1, 1, 1, 1, 1, 1, 1, 1] (C5 Cz)).set 0 c45).set 1 c49).set 2 Mi).set 3 Mj).set 4 Mg).set 5 Mk).set 6 Me).set 7 Ml).set 8 Fe).set 9 Mf).set 10 IS).set 11 [j.1]) q' w') ?_ ?_
   · refine Af (Aa (Ah V V (Ae ?_)))
     refine A1 (AW (ι := Nat × Value × World) (fun j => [(0, ptr p), (2, ptr w.heap.size), (3, ptr w1.heap.size), (4, .int .i64 ((n89 : Nat) : Int)), (5, .int .i64 ((j.1 : Nat) : Int))]) (fun j w' => w' = j.2.2 ∧ j.1 ≤ n89 ∧ ∃ l q', l.length = j.1 ∧ LQ n0 p full (fun b => b = p ∨ b = w1.heap.size) (.st .source) 290 w88 q86 ql89 n89 l j.2.1 q' w' ∧ Blk w' w1.heap.size (((((((((((((CN [1, 1, 1, 1, 1, 1, 16, 16, 5, 1, 1, 1, 1, 1, 1, 1, 1] (C5 Cz)).set 0 c45).set 1 c49).set 2 Mi).set 3 Mj).set 4 Mg).set 5 Mk).set 6 Me).set 7 Ml).set 8 Fe).set 9 Mf).set 10 IS).set 11 [j.2.1]).flatten 72) (fun j => n89 - j.1)
      (0, .slice none 0 0, wl89) ⟨V, V, V, V, V, trivial⟩ ⟨rfl, Nat.zero_le _, [], ql89, rfl, L0, B0⟩ ?_)
     clear L0 g1 B0 fl
     rintro ⟨i89, v89, _⟩ wi89 ⟨rfl, hi89, l89, qi89, hl89, L89, B89⟩
     simp only at hi89 hl89 L89 B89 ⊢
     refine Af (Af (Aa (Ac V V (Ac V V (Al V V (Bh (c := decide (i89 < n89)) (decide_eq_decide.2 Int.ofNat_lt.symm)) V (Ac V V ?_))))))
     obtain ⟨vb, vt, mm⟩ := L89.st.mem
     by_cases hin : i89 < n89
     rotate_left
     · rw [decide_eq_false hin]
       refine AY _ _ _ V (Ae (A9 V (AQ fun a ha => Aq (Aq (A3 (Ad ?_))))))
       exact ⟨(v89, wi89), ha.weak ⟨V, V, V, trivial⟩, rfl, qi89, M.list L89 hlen89 (.inr (by omega)) V (by decide) 11 B89 V⟩
     rw [decide_eq_true hin]
     refine Ag (j := 3) V V V (Ac V V (Ag (j := 3) V V V (As V V (Ag (j := 3) V V V (Ab V (BV _ _ _) V (Ag (j := 3) V V V (Ai V (A4 Ee (mm.blk.get V)) V (Ag (j := 3) V V V (Bt V V (AI V V V (Ae ?_)))))))))))
     cases hqb89 : qi89.bad with
     | true =>
      refine A9 V (AQ fun a ha => Aq (Aq (A3 (Ad ?_))))
      exact ⟨(v89, wi89), ha.weak ⟨V, V, V, trivial⟩, rfl, qi89, M.list L89 hlen89 (.inl hqb89) V (by decide) 11 B89 V⟩
     | false =>
     refine Ax V (A_ fun a ha => Ad ?_)
     obtain ⟨Z89, hz89, hzl89⟩ : ∃ Z : List Value, (∀ w, (zeroValue 290).run prog w = .ok (.agg Z.toArray) w) ∧ Z.length = Cy [16, 1] := ⟨_, zeroValue290, rfl⟩
     refine A8 ha (Af (A1 (Af (Aa (AO (z := .agg Z89.toArray) (hz89 _) V (Ar [(0, ptr p), (2, ptr w.heap.size), (3, ptr w1.heap.size), (4, .int .i64 ((n89 : Nat) : Int)), (5, .int .i64 ((i89 : Nat) : Int)), (6, ptr wi89.heap.size)] ⟨V, V, V, V, V, V, trivial⟩ ?_))))))
     have N89 := MQ.new (tid := 290) (sz := [16, 1]) (all := SN.fields .source) (R := IR .source - 1) (Z := Z89) L89.st hzl89
     show W _ _ _ _ _ _ (wi89.alloc (.cells (Z89 : List Value).toArray 290))
     generalize wi89.alloc (.cells (Z89 : List Value).toArray 290) = ws89 at N89 ⊢
     refine Af (Aa (Ac V V (Aj call83 V V (hX _ _ N89.st (N89.nest.trans (L89.nest.trans (M.nest.trans hk1)))) ?_ Be)))
     intro _ w92 g
     obtain ⟨c90, q91, rfl, N89, H⟩ := N89.read rfl (by decide) g
     obtain ⟨w93, hst, N89⟩ := N89.store (off := 0) 0 H BY rfl rfl
     refine Ab V (Gk _ _ _) V (An V V hst (Ar [(0, ptr p), (2, ptr w.heap.size), (3, ptr w1.heap.size), (4, .int .i64 ((n89 : Nat) : Int)), (5, .int .i64 ((i89 : Nat) : Int)), (6, ptr wi89.heap.size)] ⟨V, V, V, V, V, V, trivial⟩ ?_))
     refine Af (Aa (Ac V V (Aj call243 V V ((PR hX) _ _ N89.st (N89.nest.trans (L89.nest.trans (M.nest.trans hk1)))) ?_ Be)))
     intro _ w96 g
     obtain ⟨c94, q95, rfl, N89, H⟩ := N89.read rfl (by decide) g
     obtain ⟨w97, hst, N89⟩ := N89.store (off := 16) 1 H J1 rfl rfl
     refine Ab V (Fv _ _ _) V (An V V hst (Ar [(0, ptr p), (2, ptr w.heap.size), (3, ptr w1.heap.size), (4, .int .i64 ((n89 : Nat) : Int)), (5, .int .i64 ((i89 : Nat) : Int)), (6, ptr wi89.heap.size)] ⟨V, V, V, V, V, V, trivial⟩ ?_))
     obtain ⟨hl6, _, _⟩ := N89.val rfl
     have g := N89.good (sn := .source) rfl rfl
     obtain ⟨vb2, w4, v', w5, t, q', hr1, hr2, L', hkp⟩ := L89.step (ty := 69) underlying69 hei89 hby89 (by decide) (by decide) hqb89 (by omega) g
     obtain ⟨hk1, hk2⟩ := hkp _ M.blk.lt M.ne
     obtain ⟨w6, hst, L', B'⟩ := L'.put (v' := v') (hk2.trans B89) M.len rfl (.inr rfl) M.ne (Nat.le_trans M.base M.c0) Ky
     have BN := (N89.frame.blk _ B89.lt M.ne).trans B89
     refine Aa (Ab V (DB _ _ _) V (Ai V (A4 Ky (hcell89 BN)) V (Ai V (Bg Fj hl6 N89.blk.all) V (A7 V hr1 V (AU V V hr2 V (Ab V (DB _ _ _) V (An V V hst (A2 fun a ha => Az (Ad ?_)))))))))
     refine A8 ha (Aa (Ac V V (Al V V V V (Ah V V (A2 fun a ha => Ad ?_)))))
     exact ⟨(i89 + 1, v', w6), ha.weak ⟨rfl, rfl, rfl, rfl, congrArg some (AS (by have := L89.lim; omega)), trivial⟩, ⟨rfl, by show i89 + 1 ≤ n89; omega, l89 ++ [t], q', by simp [hl89], L', B'⟩, by show n89 - (i89 + 1) < n89 - i89; omega⟩
   rintro ⟨cv98, _⟩ w100 ⟨rfl, q99, M⟩
   simp only at M ⊢
   refine Af (Aa (Ac V V (Aj call33 V V (JX M.st) ?_ Be)))
   intro v1 wl101 g1
   obtain ⟨n101, ql101, rfl, L0, hlen101, fl⟩ := LQ.start (X := fun b => b = p ∨ b = w1.heap.size) (e := .st .ctch) (tid := 294) M.st (.inl rfl) (fun b hb => hb.elim (fun e => e ▸ Nat.lt_of_lt_of_le M.st.lp M.st.ln) (fun e => e ▸ M.blk.lt)) g1
   have B0 : Blk wl101 w1.heap.size ((((((((((((((CN [1, 1, 1, 1, 1, 1, 16, 16, 5, 1, 1, 1, 1, 1, 1, 1, 1] (C5 Cz)).set 0 c45).set 1 c49).set 2 Mi).set 3 Mj).set 4 Mg).set 5 Mk).set 6 Me).set 7 Ml).set 8 Fe).set 9 Mf).set 10 IS).set 11 [cv98]).set 12 [.slice none 0 0]).flatten 72 := (fl.blk _ M.blk.lt M.ne).trans M.blk
   have hcell101 : ∀ {w' : World} {v : Value}, Blk w' w1.heap.size ((((((((((((((CN [1, 1, 1, 1, 1, 1, 16, 16, 5, 1, 1, 1, 1, 1, 1, 1, 1] (C5 Cz)).set 0 c45).set 1 c49).set 2 Mi).set 3 Mj).set 4 Mg).set 5 Mk).set 6 Me).set 7 Ml).set 8 Fe).set 9 Mf).set 10 IS).set 11 [cv98]).set 12 [v]).flatten 72 → w'.cell? ⟨w1.heap.size, 46, none⟩ = some v := fun {w' v} b => b.get (CS ((((((((((((((CN [1, 1, 1, 1, 1, 1, 16, 16, 5, 1, 1, 1, 1, 1, 1, 1, 1] (C5 Cz)).set 0 c45).set 1 c49).set 2 Mi).set 3 Mj).set 4 Mg).set 5 Mk).set 6 Me).set 7 Ml).set 8 Fe).set 9 Mf).set 10 IS).set 11 [cv98]).set 12 [v]) [1, 1, 1, 1, 1, 1, 16, 16, 5, 1, 1, 1, 1, 1, 1, 1, 1] 12 v (C1 (((((((((((((CN [1, 1, 1, 1, 1, 1, 16, 16, 5, 1, 1, 1, 1, 1, 1, 1, 1] (C5 Cz)).set 0 c45).set 1 c49).set 2 Mi).set 3 Mj).set 4 Mg).set 5 Mk).set 6 Me).set 7 Ml).set 8 Fe).set 9 Mf).set 10 IS).set 11 [cv98]) [1, 1, 1, 1, 1, 1, 16, 16, 5, 1, 1, 1, 1, 1, 1, 1, 1] 12 [v] M.len rfl).2.1 rfl)
   obtain ⟨bytes, hei101, hby101⟩ : ∃ bytes, Ck prog 294 (Ty.size (.st .ctch)) bytes ∧ bytes ≤ 4096 := B7 (by kernel_rfl)
   refine Ah V V (Ar [(0, ptr p), (2, ptr w.heap.size), (3, ptr w1.heap.size), (4, .int .i64 ((n101 : Nat) : Int))] ⟨V, V, V, V, trivial⟩ ?_)
   refine B9 (ι := Value × World) (fun _ => [(0, ptr p), (2, ptr w.heap.size), (3, ptr w1.heap.size)]) (fun j w' => w' = j.2 ∧ ∃ q', MQ n0 p full w1.heap.size 72 [1, 1, 1, 1, 1, 1, 16, 16, 5, 1, 1, 1, 1, 1, 1, 1, 1] (SN.fields .instr) 7 w1 q.dn 13 ((((((((((((([] ++ [c45]) ++ [c49]) ++ [Mi]) ++ [Mj]) ++ [Mg]) ++ [Mk]) ++ [Me]) ++ [Ml]) ++ [Fe]) ++ [Mf]) ++ [IS]) ++ [[cv98]]) ++ [[j.1]]) ((((((((((((((CN [1, 1, 1, 1, 1, 1, 16, 16, 5, 1, 1, 1, 1, 1, 1, 1, 1] (C5 Cz)).set 0 c45).set 1 c49).set 2 Mi).set 3 Mj).set 4 Mg).set 5 Mk).set 6 Me).set 7 Ml).set 8 Fe).set 9 Mf).set 10 IS).set 11 [cv98]).set 12 [j.1]) q' w') ?_ ?_
   · refine Af (Aa (Ah V V (Ae ?_)))
     refine A1 (AW (ι := Nat × Value × World) (fun j => [(0, ptr p), (2, ptr w.heap.size), (3, ptr w1.heap.size), (4, .int .i64 ((n101 : Nat) : Int)), (7, .int .i64 ((j.1 : Nat) : Int))]) (fun j w' => w' = j.2.2 ∧ j.1 ≤ n101 ∧ ∃ l q', l.length = j.1 ∧ LQ n0 p full (fun b => b = p ∨ b = w1.heap.size) (.st .ctch) 294 w100 q99 ql101 n101 l j.2.1 q' w' ∧ Blk w' w1.heap.size ((((((((((((((CN [1, 1, 1, 1, 1, 1, 16, 16, 5, 1, 1, 1, 1, 1, 1, 1, 1] (C5 Cz)).set 0 c45).set 1 c49).set 2 Mi).set 3 Mj).set 4 Mg).set 5 Mk).set 6 Me).set 7 Ml).set 8 Fe).set 9 Mf).set 10 IS).set 11 [cv98]).set 12 [j.2.1]).flatten 72) (fun j => n101 - j.1)
      (0, .slice none 0 0, wl101) ⟨V, V, V, V, V, trivial⟩ ⟨rfl, Nat.zero_le _, [], ql101, rfl, L0, B0⟩ ?_)
     clear L0 g1 B0 fl
     rintro ⟨i101, v101, _⟩ wi101 ⟨rfl, hi101, l101, qi101, hl101, L101, B101⟩
     simp only at hi101 hl101 L101 B101 ⊢
     refine Af (Af (Aa (Ac V V (Ac V V (Al V V (Bh (c := decide (i101 < n101)) (decide_eq_decide.2 Int.ofNat_lt.symm)) V (Ac V V ?_))))))
     obtain ⟨vb, vt, mm⟩ := L101.st.mem
     by_cases hin : i101 < n101
     rotate_left
     · rw [decide_eq_false hin]
       refine AY _ _ _ V (Ae (A9 V (AQ fun a ha => Aq (Aq (A3 (Ad ?_))))))
       exact ⟨(v101, wi101), ha.weak ⟨V, V, V, trivial⟩, rfl, qi101, M.list L101 hlen101 (.inr (by omega)) V (by decide) 12 B101 V⟩
     rw [decide_eq_true hin]
     refine Ag (j := 3) V V V (Ac V V (Ag (j := 3) V V V (As V V (Ag (j := 3) V V V (Ab V (BV _ _ _) V (Ag (j := 3) V V V (Ai V (A4 Ee (mm.blk.get V)) V (Ag (j := 3) V V V (Bt V V (AI V V V (Ae ?_)))))))))))
     cases hqb101 : qi101.bad with
     | true =>
      refine A9 V (AQ fun a ha => Aq (Aq (A3 (Ad ?_))))
      exact ⟨(v101, wi101), ha.weak ⟨V, V, V, trivial⟩, rfl, qi101, M.list L101 hlen101 (.inl hqb101) V (by decide) 12 B101 V⟩
     | false =>
     refine Ax V (A_ fun a ha => Ad ?_)
     refine A8 ha (Af (A1 (Af (Aa (AO (z := .agg [Cz, Cz].toArray) (zeroValue294 _) V (Ar [(0, ptr p), (2, ptr w.heap.size), (3, ptr w1.heap.size), (4, .int .i64 ((n101 : Nat) : Int)), (7, .int .i64 ((i101 : Nat) : Int)), (8, ptr wi101.heap.size)] ⟨V, V, V, V, V, V, trivial⟩ ?_))))))
     have N101 := MQ.new (tid := 294) (sz := [1, 1]) (all := SN.fields .ctch) (R := IR .ctch - 1) (Z := [Cz, Cz]) L101.st rfl
     show W _ _ _ _ _ _ (wi101.alloc (.cells ([Cz, Cz] : List Value).toArray 294))
     generalize wi101.alloc (.cells ([Cz, Cz] : List Value).toArray 294) = ws101 at N101 ⊢
     refine Af (Aa (Ac V V (Aj call33 V V (JX N101.st) ?_ Be)))
     intro v1 wl102 g1
     obtain ⟨n102, ql102, rfl, L0, hlen102, fl⟩ := LQ.start (X := fun b => b = p ∨ b = wi101.heap.size) (e := .int) (tid := 3) N101.st (.inl rfl) (fun b hb => hb.elim (fun e => e ▸ Nat.lt_of_lt_of_le N101.st.lp N101.st.ln) (fun e => e ▸ N101.blk.lt)) g1
     have B0 : Blk wl102 wi101.heap.size ((CN [1, 1] [Cz, Cz]).set 0 [.slice none 0 0]).flatten 294 := (fl.blk _ N101.blk.lt N101.ne).trans N101.blk
     have hcell102 : ∀ {w' : World} {v : Value}, Blk w' wi101.heap.size ((CN [1, 1] [Cz, Cz]).set 0 [v]).flatten 294 → w'.cell? ⟨wi101.heap.size, 0, none⟩ = some v := fun {w' v} b => b.get (CS ((CN [1, 1] [Cz, Cz]).set 0 [v]) [1, 1] 0 v (C1 (CN [1, 1] [Cz, Cz]) [1, 1] 0 [v] N101.len rfl).2.1 rfl)
     obtain ⟨bytes, hei102, hby102⟩ : ∃ bytes, Ck prog 3 (Ty.size (.int)) bytes ∧ bytes ≤ 4096 := B7 (by kernel_rfl)
     refine Ah V V (Ar [(0, ptr p), (2, ptr w.heap.size), (3, ptr w1.heap.size), (4, .int .i64 ((n101 : Nat) : Int)), (7, .int .i64 ((i101 : Nat) : Int)), (8, ptr wi101.heap.size), (9, .int .i64 ((n102 : Nat) : Int))] ⟨V, V, V, V, V, V, V, trivial⟩ ?_)
     refine B9 (ι := Value × World) (fun _ => [(0, ptr p), (2, ptr w.heap.size), (3, ptr w1.heap.size), (4, .int .i64 ((n101 : Nat) : Int)), (7, .int .i64 ((i101 : Nat) : Int)), (8, ptr wi101.heap.size)]) (fun j w' => w' = j.2 ∧ ∃ q', MQ n0 p full wi101.heap.size 294 [1, 1] (SN.fields .ctch) (IR .ctch - 1) wi101 qi101 1 ([] ++ [[j.1]]) ((CN [1, 1] [Cz, Cz]).set 0 [j.1]) q' w') ?_ ?_
     · refine Af (Aa (Ah V V (Ae ?_)))
       refine A1 (AW (ι := Nat × Value × World) (fun j => [(0, ptr p), (2, ptr w.heap.size), (3, ptr w1.heap.size), (4, .int .i64 ((n101 : Nat) : Int)), (7, .int .i64 ((i101 : Nat) : Int)), (8, ptr wi101.heap.size), (9, .int .i64 ((n102 : Nat) : Int)), (10, .int .i64 ((j.1 : Nat) : Int))]) (fun j w' => w' = j.2.2 ∧ j.1 ≤ n102 ∧ ∃ l q', l.length = j.1 ∧ LQ n0 p full (fun b => b = p ∨ b = wi101.heap.size) (.int) 3 ws101 qi101 ql102 n102 l j.2.1 q' w' ∧ Blk w' wi101.heap.size ((CN [1, 1] [Cz, Cz]).set 0 [j.2.1]).flatten 294) (fun j => n102 - j.1)
        (0, .slice none 0 0, wl102) ⟨V, V, V, V, V, V, V, V, trivial⟩ ⟨rfl, Nat.zero_le _, [], ql102, rfl, L0, B0⟩ ?_)
       clear L0 g1 B0 fl
       rintro ⟨i102, v102, _⟩ wi102 ⟨rfl, hi102, l102, qi102, hl102, L102, B102⟩
       simp only at hi102 hl102 L102 B102 ⊢
       refine Af (Af (Aa (Ac V V (Ac V V (Al V V (Bh (c := decide (i102 < n102)) (decide_eq_decide.2 Int.ofNat_lt.symm)) V (Ac V V ?_))))))
       obtain ⟨vb, vt, mm⟩ := L102.st.mem
       by_cases hin : i102 < n102
       rotate_left
       · rw [decide_eq_false hin]
         refine AY _ _ _ V (Ae (A9 V (AQ fun a ha => Aq (Aq (A3 (Ad ?_))))))
         exact ⟨(v102, wi102), ha.weak ⟨V, V, V, V, V, V, trivial⟩, rfl, qi102, N101.list L102 hlen102 (.inr (by omega)) V (by decide) 0 B102 V⟩
       rw [decide_eq_true hin]
       refine Ag (j := 3) V V V (Ac V V (Ag (j := 3) V V V (As V V (Ag (j := 3) V V V (Ab V (BV _ _ _) V (Ag (j := 3) V V V (Ai V (A4 Ee (mm.blk.get V)) V (Ag (j := 3) V V V (Bt V V (AI V V V (Ae ?_)))))))))))
       cases hqb102 : qi102.bad with
       | true =>
        refine A9 V (AQ fun a ha => Aq (Aq (A3 (Ad ?_))))
        exact ⟨(v102, wi102), ha.weak ⟨V, V, V, V, V, V, trivial⟩, rfl, qi102, N101.list L102 hlen102 (.inl hqb102) V (by decide) 0 B102 V⟩
       | false =>
       refine Ax V (A_ fun a ha => Ad ?_)
       refine A8 ha (Af (A1 (Hi CE ?_)))
       replace L102 := L102.turn (Fr.drewn 1)
       replace B102 := kb (Fr.drewn 1) B102
       generalize wi102.drewN 1 = wd102 at L102 B102 ⊢
       refine Ct (i := 0) V (by decide +kernel) (by repeat (first | with_reducible exact Bo | with_reducible apply Bl | with_reducible apply Br)) V (fun w => DX w _ _) V (C7 (i := 2) V (by decide +kernel) (by repeat (first | with_reducible exact Bo | with_reducible apply Bl | with_reducible apply Br)) V V ?_)
       refine Gt (R := QGood n0 p full (.int) qi102 wd102) (Lf := #[true, true, true, true, true, false, false, false]) (fun vb => [(104, vb), (101, v102), (0, ptr p), (2, ptr w.heap.size), (3, ptr w1.heap.size), (4, .int .i64 ((n101 : Nat) : Int)), (7, .int .i64 ((i101 : Nat) : Int)), (8, ptr wi101.heap.size), (9, .int .i64 ((n102 : Nat) : Int)), (10, .int .i64 ((i102 : Nat) : Int))]) V V V (by decide +kernel) (by decide +kernel) (by decide +kernel) (by decide +kernel) (by decide +kernel) (by decide +kernel) V V V V V V V (fun _ => rfl) (fun _ _ => rfl) V (fun _ => rfl) (fun _ _ => rfl) (fun _ => rfl) (fun _ _ => rfl) call86 (J4 _ _ L102.st (L102.nest.trans (N101.nest.trans (L101.nest.trans (M.nest.trans hk1)))))
        (A4 Hp (hcell102 B102)) (fun x w1 g => ?_) (fun x w1 g => ?_) (fun _ _ => ⟨V, V, V, V, V, V, V, V, V, V, trivial⟩) (fun _ _ => ⟨V, V, V, V, V, V, V, V, V, V, trivial⟩) (fun _ _ => ⟨V, V, V, V, V, V, V, V, V, V, trivial⟩)
       · obtain ⟨t, q', cs, rfl, hrep, hst, f', _⟩ := g
         exact A4 Hp (hcell102 ((f'.blk _ B102.lt N101.ne).trans B102))
       obtain ⟨vb2, w4, v', w5, t, q', hr1, hr2, L', hkp⟩ := L102.step (ty := 262) underlying262 hei102 hby102 (by decide) (by decide) hqb102 (by omega) g
       obtain ⟨hk1, hk2⟩ := hkp _ N101.blk.lt N101.ne
       obtain ⟨w6, hst, L', B'⟩ := L'.put (v' := v') (hk2.trans B102) N101.len rfl (.inr rfl) N101.ne (Nat.le_trans N101.base N101.c0) Hp
       refine ⟨vb2, w4, hr1, A4 Hp (hcell102 (hk1.trans B102)), AX (i := 5) (by decide +kernel) V (AU V V hr2 V (Ba (AX (i := 6) (by decide +kernel) V (Ab V (DX _ _ _) V (Ba (AX (i := 7) (by decide +kernel) V (An V V hst (Ba (Cv (by decide +kernel) (fun a ha => Az (Ad ?_)))))))))))⟩
       refine A8 ha (Aa (Ac V V (Al V V V V (Ah V V (A2 fun a ha => Ad ?_)))))
       exact ⟨(i102 + 1, v', w6), ha.weak ⟨rfl, rfl, rfl, rfl, rfl, rfl, rfl, congrArg some (AS (by have := L102.lim; omega)), trivial⟩, ⟨rfl, by show i102 + 1 ≤ n102; omega, l102 ++ [t], q', by simp [hl102], L', B'⟩, by show n102 - (i102 + 1) < n102 - i102; omega⟩
     rintro ⟨cv103, _⟩ w105 ⟨rfl, q104, N101⟩
     simp only at N101 ⊢
     refine Af (Aa (Ac V V (Aj call132 V V ((Nq hI) _ _ N101.st (N101.nest.trans (L101.nest.trans (M.nest.trans hk1)))) ?_ Be)))
     intro _ w108 g
     obtain ⟨c106, q107, rfl, N101, H⟩ := N101.read rfl (by decide) g
     obtain ⟨w109, hst, N101⟩ := N101.store (off := 1) 1 H Dt rfl rfl
     refine Ab V (FU _ _ _) V (An V V hst (Ar [(0, ptr p), (2, ptr w.heap.size), (3, ptr w1.heap.size), (4, .int .i64 ((n101 : Nat) : Int)), (7, .int .i64 ((i101 : Nat) : Int)), (8, ptr wi101.heap.size)] ⟨V, V, V, V, V, V, trivial⟩ ?_))
     obtain ⟨hl6, _, _⟩ := N101.val rfl
     have g := N101.good (sn := .ctch) rfl rfl
     obtain ⟨vb2, w4, v', w5, t, q', hr1, hr2, L', hkp⟩ := L101.step (ty := 70) underlying70 hei101 hby101 (by decide) (by decide) hqb101 (by omega) g
     obtain ⟨hk1, hk2⟩ := hkp _ M.blk.lt M.ne
     obtain ⟨w6, hst, L', B'⟩ := L'.put (v' := v') (hk2.trans B101) M.len rfl (.inr rfl) M.ne (Nat.le_trans M.base M.c0) J3
     have BN := (N101.frame.blk _ B101.lt M.ne).trans B101
     refine Aa (Ab V (Dn _ _ _) V (Ai V (A4 J3 (hcell101 BN)) V (Ai V (Bg E7 hl6 N101.blk.all) V (A7 V hr1 V (AU V V hr2 V (Ab V (Dn _ _ _) V (An V V hst (A2 fun a ha => Az (Ad ?_)))))))))
     refine A8 ha (Aa (Ac V V (Al V V V V (Ah V V (A2 fun a ha => Ad ?_)))))
     exact ⟨(i101 + 1, v', w6), ha.weak ⟨rfl, rfl, rfl, rfl, congrArg some (AS (by have := L101.lim; omega)), trivial⟩, ⟨rfl, by show i101 + 1 ≤ n101; omega, l101 ++ [t], q', by simp [hl101], L', B'⟩, by show n101 - (i101 + 1) < n101 - i101; omega⟩
   rintro ⟨cv110, _⟩ w112 ⟨rfl, q111, M⟩
   simp only at M ⊢
   refine Af (Aa (Ac V V (Aj call132 V V ((Nq hI) _ _ M.st (M.nest.trans hk1)) ?_ Be)))
   intro _ w115 g
   obtain ⟨c113, q114, rfl, M, H⟩ := M.read rfl (by decide) g
   obtain ⟨w116, hst, M⟩ := M.store (off := 47) 13 H Dt rfl rfl
   refine Ab V (FE _ _ _) V (An V V hst (Ar [(0, ptr p), (2, ptr w.heap.size), (3, ptr w1.heap.size)] ⟨V, V, V, trivial⟩ ?_))
   refine Af (Aa (Ac V V (Aj call132 V V ((Nq hI) _ _ M.st (M.nest.trans hk1)) ?_ Be)))
   intro _ w119 g
   obtain ⟨I0, q118, rfl, M, H⟩ := M.read rfl (by decide) g
   obtain ⟨w120, hst, M⟩ := M.store (off := 48) 14 H Dt rfl rfl
   refine Ab V (FY _ _ _) V (An V V hst (Ar [(0, ptr p), (2, ptr w.heap.size), (3, ptr w1.heap.size)] ⟨V, V, V, trivial⟩ ?_))
   refine Af (Aa (Ac V V (Aj call86 V V (J4 _ _ M.st (M.nest.trans hk1)) ?_ Be)))
   intro _ w123 g
   obtain ⟨OS, q122, rfl, M, H⟩ := M.read rfl (by decide) g
   obtain ⟨w124, hst, M⟩ := M.store (off := 49) 15 H Cj rfl rfl
   refine Ab V (Gi _ _ _) V (An V V hst (Ar [(0, ptr p), (2, ptr w.heap.size), (3, ptr w1.heap.size)] ⟨V, V, V, trivial⟩ ?_))
   refine Aa (Ac V V (Aj call86 V V (J4 _ _ M.st (M.nest.trans hk1)) ?_ Be))
   intro _ w127 g
   obtain ⟨Pk, q126, rfl, M, H⟩ := M.read rfl (by decide) g
   obtain ⟨w128, hst, M⟩ := M.store (off := 50) 16 H Cj rfl rfl
   refine Ab V (FM _ _ _) V (An V V hst (A2 fun a ha => Ad ⟨(_, _), ha.weak ⟨V, V, V, trivial⟩, DQ.whole (sn := .instr) M V V hb⟩))
 · rintro ⟨C, q1⟩ w8 D
   simp only at D ⊢
   obtain ⟨w9, u1, u2, u3, u4, u5, u6⟩ := D.finish f1 h.ln (Nat.le_refl _) b1 Hh rfl (by omega)
   refine Af (Aa (Ac V V (As V V (Ab V (DS _ _ _) V (Ai V u1 V (Al (v := .int .i64 ((q.nest : Nat) : Int)) V V ?_ V (As V V (Ab V (DS _ _ _) V (An V V u2 (Ae ?_))))))))))
   · have := EH (w := w8) (t := 3) (a := ((q.nest + 1 : Nat) : Int)) (b := 1) (by unfold Bu; omega)
     rwa [show ((q.nest + 1 : Nat) : Int) - 1 = ((q.nest : Nat) : Int) by omega] at this
   exact Af (Aa (Ai V u3 V (An V V u4 (Ae (AA fun a ha => BE V ha V u5 u6)))))
theorem St {n0 p k : Nat} {full : List UInt8} (hX : Cq n0 p full 83 (.st .expr) k) : Cq n0 p full 84 (.st .accum) k := by
 intro q w h hk
 refine AB 43 func84 V V V ?_
 refine Af (Aa (AO (z := .agg ([E0] ++ CF Cz ++ [Cz]).toArray) (zeroValue151 _) V (Ae ?_)))
 have f1 : F0 w (w.alloc (.cells (([E0] ++ CF Cz ++ [Cz]) : List Value).toArray 151)) := Fr.alloc _ _ _
 have b1 : Blk (w.alloc (.cells (([E0] ++ CF Cz ++ [Cz]) : List Value).toArray 151)) w.heap.size ([E0] ++ CF Cz ++ [Cz]) 151 := AN
 show W _ _ _ _ _ _ (w.alloc (.cells (([E0] ++ CF Cz ++ [Cz]) : List Value).toArray 151))
 generalize w.alloc (.cells (([E0] ++ CF Cz ++ [Cz]) : List Value).toArray 151) = w1 at f1 b1 ⊢
 have h1 : QSt n0 p full q w1 := h.keep f1 (fun _ h => h.elim)
 refine Af (Aa (AO (z := .agg ([E0] ++ CF Cz ++ [Cz]).toArray) (zeroValue151 _) V (Ar [(0, ptr p), (2, ptr w.heap.size), (3, ptr w1.heap.size)] ⟨V, V, V, trivial⟩ ?_)))
 have M := MQ.new (tid := 151) (sz := [1, 16, 1]) (all := SN.fields .accum) (R := IR .accum - 1) (Z := ([E0] ++ CF Cz ++ [Cz])) h1 rfl
 show W _ _ _ _ _ _ (w1.alloc (.cells (([E0] ++ CF Cz ++ [Cz]) : List Value).toArray 151))
 generalize w1.alloc (.cells (([E0] ++ CF Cz ++ [Cz]) : List Value).toArray 151) = w2 at M ⊢
 refine Af (Aa (Ac V V (Aj call77 V V (Fe _ _ M.st (M.nest.trans hk)) ?_ Be)))
 intro _ w131 g
 obtain ⟨Lk, q130, rfl, M, H⟩ := M.read rfl (by decide) g
 obtain ⟨w132, hst, M⟩ := M.store (off := 0) 0 H Cc rfl rfl
 refine Ab V (Fx _ _ _) V (An V V hst (Ar [(0, ptr p), (2, ptr w.heap.size), (3, ptr w1.heap.size)] ⟨V, V, V, trivial⟩ ?_))
 refine Af (Aa (Ac V V (Aj call83 V V (hX _ _ M.st (M.nest.trans hk)) ?_ Be)))
 intro _ w135 g
 obtain ⟨IU, q134, rfl, M, H⟩ := M.read rfl (by decide) g
 obtain ⟨w136, hst, M⟩ := M.store (off := 1) 1 H BY rfl rfl
 refine Ab V (Gv _ _ _) V (An V V hst (Ar [(0, ptr p), (2, ptr w.heap.size), (3, ptr w1.heap.size)] ⟨V, V, V, trivial⟩ ?_))
 refine Af (Aa (Ac V V (Aj call33 V V (JX M.st) ?_ Be)))
 intro v1 wl137 g1
 obtain ⟨n137, ql137, rfl, L0, hlen137, fl⟩ := LQ.start (X := fun b => b = p ∨ b = w1.heap.size) (e := .st .rule) (tid := 182) M.st (.inl rfl) (fun b hb => hb.elim (fun e => e ▸ Nat.lt_of_lt_of_le M.st.lp M.st.ln) (fun e => e ▸ M.blk.lt)) g1
 have B0 : Blk wl137 w1.heap.size ((((CN [1, 16, 1] ([E0] ++ CF Cz ++ [Cz])).set 0 Lk).set 1 IU).set 2 [.slice none 0 0]).flatten 151 := (fl.blk _ M.blk.lt M.ne).trans M.blk
 have hcell137 : ∀ {w' : World} {v : Value}, Blk w' w1.heap.size ((((CN [1, 16, 1] ([E0] ++ CF Cz ++ [Cz])).set 0 Lk).set 1 IU).set 2 [v]).flatten 151 → w'.cell? ⟨w1.heap.size, 17, none⟩ = some v := fun {w' v} b => b.get (CS ((((CN [1, 16, 1] ([E0] ++ CF Cz ++ [Cz])).set 0 Lk).set 1 IU).set 2 [v]) [1, 16, 1] 2 v (C1 (((CN [1, 16, 1] ([E0] ++ CF Cz ++ [Cz])).set 0 Lk).set 1 IU) [1, 16, 1] 2 [v] M.len rfl).2.1 rfl)
 obtain ⟨bytes, hei137, hby137⟩ : ∃ bytes, Ck prog 182 (Ty.size (.st .rule)) bytes ∧ bytes ≤ 4096 := B7 (by kernel_rfl)
 refine Ah V V (Ar [(0, ptr p), (2, ptr w.heap.size), (3, ptr w1.heap.size), (4, .int .i64 ((n137 : Nat) : Int))] ⟨V, V, V, V, trivial⟩ ?_)
 refine B9 (ι := Value × World) (fun _ => [(0, ptr p), (2, ptr w.heap.size), (3, ptr w1.heap.size)]) (fun j w' => w' = j.2 ∧ ∃ q', MQ n0 p full w1.heap.size 151 [1, 16, 1] (SN.fields .accum) (IR .accum - 1) w1 q 3 ((([] ++ [Lk]) ++ [IU]) ++ [[j.1]]) ((((CN [1, 16, 1] ([E0] ++ CF Cz ++ [Cz])).set 0 Lk).set 1 IU).set 2 [j.1]) q' w') ?_ ?_
 · refine Af (Aa (Ah V V (Ae ?_)))
   refine A1 (AW (ι := Nat × Value × World) (fun j => [(0, ptr p), (2, ptr w.heap.size), (3, ptr w1.heap.size), (4, .int .i64 ((n137 : Nat) : Int)), (5, .int .i64 ((j.1 : Nat) : Int))]) (fun j w' => w' = j.2.2 ∧ j.1 ≤ n137 ∧ ∃ l q', l.length = j.1 ∧ LQ n0 p full (fun b => b = p ∨ b = w1.heap.size) (.st .rule) 182 w136 q134 ql137 n137 l j.2.1 q' w' ∧ Blk w' w1.heap.size ((((CN [1, 16, 1] ([E0] ++ CF Cz ++ [Cz])).set 0 Lk).set 1 IU).set 2 [j.2.1]).flatten 151) (fun j => n137 - j.1)
    (0, .slice none 0 0, wl137) ⟨V, V, V, V, V, trivial⟩ ⟨rfl, Nat.zero_le _, [], ql137, rfl, L0, B0⟩ ?_)
   clear L0 g1 B0 fl
   rintro ⟨i137, v137, _⟩ wi137 ⟨rfl, hi137, l137, qi137, hl137, L137, B137⟩
   simp only at hi137 hl137 L137 B137 ⊢
   refine Af (Af (Aa (Ac V V (Ac V V (Al V V (Bh (c := decide (i137 < n137)) (decide_eq_decide.2 Int.ofNat_lt.symm)) V (Ac V V ?_))))))
   obtain ⟨vb, vt, mm⟩ := L137.st.mem
   by_cases hin : i137 < n137
   rotate_left
   · rw [decide_eq_false hin]
     refine AY _ _ _ V (Ae (A9 V (AQ fun a ha => Aq (Aq (A3 (Ad ?_))))))
     exact ⟨(v137, wi137), ha.weak ⟨V, V, V, trivial⟩, rfl, qi137, M.list L137 hlen137 (.inr (by omega)) V (by decide) 2 B137 V⟩
   rw [decide_eq_true hin]
   refine Ag (j := 3) V V V (Ac V V (Ag (j := 3) V V V (As V V (Ag (j := 3) V V V (Ab V (BV _ _ _) V (Ag (j := 3) V V V (Ai V (A4 Ee (mm.blk.get V)) V (Ag (j := 3) V V V (Bt V V (AI V V V (Ae ?_)))))))))))
   cases hqb137 : qi137.bad with
   | true =>
    refine A9 V (AQ fun a ha => Aq (Aq (A3 (Ad ?_))))
    exact ⟨(v137, wi137), ha.weak ⟨V, V, V, trivial⟩, rfl, qi137, M.list L137 hlen137 (.inl hqb137) V (by decide) 2 B137 V⟩
   | false =>
   refine Ax V (A_ fun a ha => Ad ?_)
   obtain ⟨Z137, hz137, hzl137⟩ : ∃ Z : List Value, (∀ w, (zeroValue 182).run prog w = .ok (.agg Z.toArray) w) ∧ Z.length = Cy [1, 1, 16] := ⟨_, zeroValue182, rfl⟩
   refine A8 ha (Af (A1 (Af (Aa (AO (z := .agg Z137.toArray) (hz137 _) V (Ar [(0, ptr p), (2, ptr w.heap.size), (3, ptr w1.heap.size), (4, .int .i64 ((n137 : Nat) : Int)), (5, .int .i64 ((i137 : Nat) : Int)), (6, ptr wi137.heap.size)] ⟨V, V, V, V, V, V, trivial⟩ ?_))))))
   have N137 := MQ.new (tid := 182) (sz := [1, 1, 16]) (all := SN.fields .rule) (R := IR .rule - 1) (Z := Z137) L137.st hzl137
   show W _ _ _ _ _ _ (wi137.alloc (.cells (Z137 : List Value).toArray 182))
   generalize wi137.alloc (.cells (Z137 : List Value).toArray 182) = ws137 at N137 ⊢
   refine Af (Aa (Ac V V (Aj call82 V V ((QC hX) _ _ N137.st (N137.nest.trans (L137.nest.trans (M.nest.trans hk)))) ?_ Be)))
   intro _ w140 g
   obtain ⟨ON, q139, rfl, N137, H⟩ := N137.read rfl (by decide) g
   obtain ⟨w141, hst, N137⟩ := N137.store (off := 0) 0 H Eh rfl rfl
   refine Ab V (FR _ _ _) V (An V V hst (Ar [(0, ptr p), (2, ptr w.heap.size), (3, ptr w1.heap.size), (4, .int .i64 ((n137 : Nat) : Int)), (5, .int .i64 ((i137 : Nat) : Int)), (6, ptr wi137.heap.size)] ⟨V, V, V, V, V, V, trivial⟩ ?_))
   refine Af (Aa (Ac V V (Aj call85 V V (IS _ _ N137.st (N137.nest.trans (L137.nest.trans (M.nest.trans hk)))) ?_ Be)))
   intro _ w144 g
   obtain ⟨c142, q143, rfl, N137, H⟩ := N137.read rfl (by decide) g
   obtain ⟨w145, hst, N137⟩ := N137.store (off := 1) 1 H Dp rfl rfl
   refine Ab V (FJ _ _ _) V (An V V hst (Ar [(0, ptr p), (2, ptr w.heap.size), (3, ptr w1.heap.size), (4, .int .i64 ((n137 : Nat) : Int)), (5, .int .i64 ((i137 : Nat) : Int)), (6, ptr wi137.heap.size)] ⟨V, V, V, V, V, V, trivial⟩ ?_))
   refine Af (Aa (Ac V V (Aj call83 V V (hX _ _ N137.st (N137.nest.trans (L137.nest.trans (M.nest.trans hk)))) ?_ Be)))
   intro _ w148 g
   obtain ⟨c146, q147, rfl, N137, H⟩ := N137.read rfl (by decide) g
   obtain ⟨w149, hst, N137⟩ := N137.store (off := 2) 2 H BY rfl rfl
   refine Ab V (FC _ _ _) V (An V V hst (Ar [(0, ptr p), (2, ptr w.heap.size), (3, ptr w1.heap.size), (4, .int .i64 ((n137 : Nat) : Int)), (5, .int .i64 ((i137 : Nat) : Int)), (6, ptr wi137.heap.size)] ⟨V, V, V, V, V, V, trivial⟩ ?_))
   obtain ⟨hl6, _, _⟩ := N137.val rfl
   have g := N137.good (sn := .rule) rfl rfl
   obtain ⟨vb2, w4, v', w5, t, q', hr1, hr2, L', hkp⟩ := L137.step (ty := 149) underlying149 hei137 hby137 (by decide) (by decide) hqb137 (by omega) g
   obtain ⟨hk1, hk2⟩ := hkp _ M.blk.lt M.ne
   obtain ⟨w6, hst, L', B'⟩ := L'.put (v' := v') (hk2.trans B137) M.len rfl (.inr rfl) M.ne (Nat.le_trans M.base M.c0) Fb
   have BN := (N137.frame.blk _ B137.lt M.ne).trans B137
   refine Aa (Ab V (CZ _ _ _) V (Ai V (A4 Fb (hcell137 BN)) V (Ai V (Bg Ew hl6 N137.blk.all) V (A7 V hr1 V (AU V V hr2 V (Ab V (CZ _ _ _) V (An V V hst (A2 fun a ha => Az (Ad ?_)))))))))
   refine A8 ha (Aa (Ac V V (Al V V V V (Ah V V (A2 fun a ha => Ad ?_)))))
   exact ⟨(i137 + 1, v', w6), ha.weak ⟨rfl, rfl, rfl, rfl, congrArg some (AS (by have := L137.lim; omega)), trivial⟩, ⟨rfl, by show i137 + 1 ≤ n137; omega, l137 ++ [t], q', by simp [hl137], L', B'⟩, by show n137 - (i137 + 1) < n137 - i137; omega⟩
 rintro ⟨cv150, _⟩ w152 ⟨rfl, q151, M⟩
 simp only at M ⊢
 obtain ⟨e1, e2, e3, e4⟩ := M.finish (sn := .accum) rfl rfl f1 h.ln (Nat.le_refl _) b1 Ds rfl
 exact Af (Aa (Ai V e1 V (An V V e2 (Ae (AA fun a ha => BE V ha V e3 e4)))))
end Go.Sx
namespace Go.Sx
open Go.Proofs Go.Proofs.Tryz
theorem Og {q q1 : QS} (h : Ik .bool q q1 (.bool false)) : Ik (.ptr (.st .sheet)) q q1 .nil := ⟨h.z, h.g, h.b⟩
theorem NQ {q q1 q2 : QS} {t : T} (h : Ik .bool q q1 (.bool true)) (k : Ik (.st .sheet) q1 q2 t) (hn : q1.nest = q.nest) (hb : q1.bad = false) : Ik (.ptr (.st .sheet)) q q2 (.ptr t) := by
 have hq : q.bad = false := by
  cases hq : q.bad with
  | false => rfl
  | true => have := (h.z hq).1; rw [hb] at this; cases this
 have a := h.g hq hb
 simp only [T.wt] at a
 refine ⟨fun h0 => (by rw [hq] at h0; cases h0), fun _ h2 => ?_, fun _ h2 => ?_⟩
 · have b := k.g hb h2
   simp only [T.wt]; omega
 · have b := k.b hb h2
   rw [hn] at b
   simp only [T.wt, IA, IX, IR] at b ⊢; omega
theorem Ox {q q1 : QS} (h : Fits .bool q q1 (.bool false)) : Fits (.ptr (.st .sheet)) q q1 .nil := by
 intro s hs u s' hu
 cases u <;> simp only [CK] at hu <;> try cases hu
 · exact ⟨rfl, (h s hs (.bool false) s' (by simp only [CK]; exact hu)).2⟩
 · simp only [Option.bind_eq_some_iff] at hu
   obtain ⟨s1, h1, _⟩ := hu
   have := (h s hs (.bool true) s1 (by simp only [CK]; exact h1)).1
   cases this
theorem NY {q q1 q2 : QS} {t : T} (h : Fits .bool q q1 (.bool true)) (k : Fits (.st .sheet) q1 q2 t) : Fits (.ptr (.st .sheet)) q q2 (.ptr t) := by
 intro s hs u s' hu
 cases u <;> simp only [CK] at hu <;> try cases hu
 · have := (h s hs (.bool false) s' (by simp only [CK]; exact hu)).1
   cases this
 · simp only [Option.bind_eq_some_iff] at hu
   obtain ⟨s1, h1, h2⟩ := hu
   obtain ⟨_, hf⟩ := h s hs (.bool true) s1 (by simp only [CK]; exact h1)
   obtain ⟨rfl, hf2⟩ := k s1 hf _ s' h2
   exact ⟨rfl, hf2⟩
def zuse : List Value := [E0, .pointer none, HI, HI]
theorem Sg {n0 p k : Nat} {full : List UInt8} (hS : Cq n0 p full 34 (.st .sheet) k) : Cq n0 p full 78 (.st .use) k := by
 intro q w h hk
 refine AB 20 func78 V V V ?_
 refine Af (Aa (AO (z := .agg zuse.toArray) (zeroValue48 _) V (Ae ?_)))
 have f1 : F0 w (w.alloc (.cells zuse.toArray 48)) := Fr.alloc _ _ _
 have b1 : Blk (w.alloc (.cells zuse.toArray 48)) w.heap.size zuse 48 := AN
 show W _ _ _ _ _ _ (w.alloc (.cells zuse.toArray 48))
 generalize w.alloc (.cells zuse.toArray 48) = w1 at f1 b1 ⊢
 have h1 : QSt n0 p full q w1 := h.keep f1 (fun _ h => h.elim)
 refine Af (Aa (AO (z := .agg zuse.toArray) (zeroValue48 _) V (Ar [(0, ptr p), (2, ptr w.heap.size), (3, ptr w1.heap.size)] ⟨V, V, V, trivial⟩ ?_)))
 have M := MQ.new (tid := 48) (sz := [1, 1, 1, 1]) (all := SN.fields .use) (R := IR .use - 1) (Z := zuse) h1 rfl
 show W _ _ _ _ _ _ (w1.alloc (.cells zuse.toArray 48))
 generalize w1.alloc (.cells zuse.toArray 48) = w2 at M ⊢
 refine Af (Aa (Ac V V (Aj call77 V V (Fe _ _ M.st (M.nest.trans hk)) ?_ Be)))
 intro _ _ g
 obtain ⟨c0, q2, rfl, M, H⟩ := M.read rfl (by decide) g
 obtain ⟨w3, hst, M⟩ := M.store (off := 0) 0 H Cc rfl rfl
 refine Ab V (G0 _ _ _) V (An V V hst (Ar [(0, ptr p), (2, ptr w.heap.size), (3, ptr w1.heap.size)] ⟨V, V, V, trivial⟩ ?_))
 clear hst g H
 refine B9 (ι := Value × World) (fun _ => [(0, ptr p), (2, ptr w.heap.size), (3, ptr w1.heap.size)]) (fun j w' => w' = j.2 ∧ ∃ q', MQ n0 p full w1.heap.size 48 [1, 1, 1, 1] (SN.fields .use) (IR .use - 1) w1 q 2 (([] ++ [c0]) ++ [[j.1]]) (((CN [1, 1, 1, 1] zuse).set 0 c0).set 1 [j.1]) q' w') ?_ ?_
 · refine Af (Aa (Ac V V (Aj call85 V V (PO M.st) ?_ Be)))
   rintro _ w4 ⟨b, q4, rfl, h4, f4, n4, t4, co4, fi4, hbb⟩
   cases b with
   | false =>
    have M2 := M.add (f := .ptr (.st .sheet)) (t := .nil) (cs := [.pointer none]) rfl (by decide) (by simp only [Rep]) h4 f4 n4 t4 (Og co4) (Ox fi4)
    exact Ae (A9 V (A_ fun a ha => Ad ⟨(.pointer none, w4), ha.weak ⟨V, V, V, trivial⟩, rfl, q4, M2⟩))
   | true =>
    have hb4 : q4.bad = false := by
     cases hq : q4.bad with
     | false => rfl
     | true => have := hbb hq; cases this
    refine Ae (Ax V (Af (Aa (Ac V V (Aj call34 V V (hS q4 w4 h4 (n4.trans (M.nest.trans hk))) ?_ Be)))))
    rintro _ w5 ⟨ts, q5, cs, rfl, r5, h5, f5, n5, t5, co5, fi5⟩
    have hone := Rep.one _ _ _ r5
    obtain ⟨w6, hst6, b6, f6⟩ := HT (w := w5) (cs := cs) hone.1 hone.2
    have hs5 := f5.size
    have hs4 := f4.size
    have hs6 := f6.size
    have hb6 := b6.lt
    have f46 : Fr (only p) w3 (only p) w6 := (f4.trans f5).trans (f6.drop (fun _ h => h.elim))
    have rp : Rep w6 (fun b => w3.heap.size ≤ b) (.ptr ts) (.ptr (.st .sheet)) [ptr w5.heap.size] := by
     simp only [Rep]
     exact ⟨w5.heap.size, 0, cs, rfl, by omega, hb6, b6.all, hone.1, Rep.agree (fun b hb hl => ⟨by omega, by omega, Fr.blk f6 b hl (fun h => h)⟩) _ _ _ r5⟩
    have M2 := M.add (f := .ptr (.st .sheet)) rfl (by decide) rp (h5.keep f6 (fun _ h => h.elim)) f46 (n5.trans n4) (t5.trans t4) (NQ co4 co5 n4 hb4) (NY fi4 fi5)
    obtain ⟨w7, hst7, M2⟩ := M2.store (off := 1) 1 ⟨_, _, _, rp⟩ E9 rfl rfl
    refine AO (Iy _) V (An V V hst6 (Ae (Aa (Ab V (C3 _ _ _) V (An V V hst7 (A2 fun a ha => Ad ⟨(ptr w5.heap.size, w7), ha.weak ⟨V, V, V, trivial⟩, rfl, q5, M2⟩))))))
 rintro ⟨pv, _⟩ w4 ⟨rfl, q3, M⟩
 simp only at M ⊢
 refine Af (Aa (Ac V V (Aj call86 V V (J4 _ _ M.st (M.nest.trans hk)) ?_ Be)))
 intro _ _ g
 obtain ⟨c2, _, rfl, M, H⟩ := M.read rfl (by decide) g
 obtain ⟨_, hst, M⟩ := M.store (off := 2) 2 H Cj rfl rfl
 refine Ab V (EX _ _ _) V (An V V hst (Ar [(0, ptr p), (2, ptr w.heap.size), (3, ptr w1.heap.size)] ⟨V, V, V, trivial⟩ ?_))
 refine Af (Aa (Ac V V (Aj call86 V V (J4 _ _ M.st (M.nest.trans hk)) ?_ Be)))
 intro _ _ g
 obtain ⟨c3, _, rfl, M, H⟩ := M.read rfl (by decide) g
 obtain ⟨_, hst, M⟩ := M.store (off := 3) 3 H Cj rfl rfl
 refine Ab V (Fc _ _ _) V (An V V hst (Ar [(0, ptr p), (2, ptr w.heap.size), (3, ptr w1.heap.size)] ⟨V, V, V, trivial⟩ ?_))
 obtain ⟨e1, e2, e3, e4⟩ := M.finish (sn := .use) rfl rfl f1 h.ln (Nat.le_refl _) b1 E5 rfl
 exact Af (Aa (Ai V e1 V (An V V e2 (Ae (AA fun a ha => BE V ha V e3 e4)))))
end Go.Sx
