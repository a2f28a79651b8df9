import Derived.Test.YtdldhfocpandoaaGreatStW
set_option maxHeartbeats 8000000
set_option maxRecDepth 8000
namespace Go.Sx
open Go.Proofs Go.Proofs.Tryz
theorem RN {n0 p k : Nat} {full : List UInt8} (hk0 : k ≤ 1000) (hX0 : k + 1 ≤ 1000 → Cq n0 p full 83 (.st .expr) (k + 1)) (hI0 : k + 1 ≤ 1000 → Cq n0 p full 198 (.st .instr) (k + 1)) (hS0 : k + 1 ≤ 1000 → Cq n0 p full 34 (.st .sheet) (k + 1)) : Cq n0 p full 34 (.st .sheet) k := by
 intro q w h hk
 refine AB 299 func34 V V V ?_
 refine Af (Aa (AO (z := .agg zsheet.toArray) (zeroValue36 _) V (Ae ?_)))
 have f1 : F0 w (w.alloc (.cells (zsheet : List Value).toArray 36)) := Fr.alloc _ _ _
 have b1 : Blk (w.alloc (.cells (zsheet : List Value).toArray 36)) w.heap.size zsheet 36 := AN
 show W _ _ _ _ _ _ (w.alloc (.cells (zsheet : List Value).toArray 36))
 generalize w.alloc (.cells (zsheet : List Value).toArray 36) = w1 at f1 b1 ⊢
 have h1 : QSt n0 p full q w1 := h.keep f1 (fun _ h => h.elim)
 refine Af (Aa (AO (z := .agg zsheet.toArray) (zeroValue36 _) V (Ar [(0, ptr p), (2, ptr w.heap.size), (3, ptr w1.heap.size)] ⟨V, V, V, trivial⟩ ?_)))
 have f2 : F0 w1 (w1.alloc (.cells (zsheet : List Value).toArray 36)) := Fr.alloc _ _ _
 have b2 : Blk (w1.alloc (.cells (zsheet : List Value).toArray 36)) w1.heap.size zsheet 36 := AN
 show W _ _ _ _ _ _ (w1.alloc (.cells (zsheet : List Value).toArray 36))
 generalize w1.alloc (.cells (zsheet : List Value).toArray 36) = w2 at f2 b2 ⊢
 have h2 : QSt n0 p full q w2 := h1.keep f2 (fun _ h => h.elim)
 have hne : w1.heap.size ≠ p := fun e => by have := h1.lp; have := h1.ln; omega
 refine Af (Af (Aa (Ac V V (Aj call76 V V (Rz h2 (by omega)) ?_ Be))))
 rintro _ w3 ⟨rfl, h3, f3⟩
 have b3 : Blk w3 w1.heap.size zsheet 36 := (f3.blk _ b2.lt hne).trans b2
 have hk1 : q.dn.nest = k + 1 := congrArg (· + 1) hk
 have f13 : Fr (only p) w1 (fun b => b = p ∨ w1.heap.size ≤ b) w3 := by
  have f := (f2.drop (O := only p) (fun _ h => h.elim)).trans f3
  exact ⟨f.os, f.tape, f.output, f.size, f.blk, fun b hb => hb⟩
 cases hb : q.dn.bad with
 | true =>
  refine Bt V V (Ae (Ax V ?_))
  have D := DQ.zero (c := w1.heap.size) (tid := 36) (sn := .sheet) h3 hb (by omega) f13 (Nat.le_refl _) b3 h1.ln rfl rfl GI (t := Jy) (fun w S => Hc) (by decide)
  obtain ⟨w9, u1, u2, u3, u4, u5, u6⟩ := D.finish f1 h.ln (Nat.le_refl _) b1 EE rfl (by omega)
  refine Af (Aa (Ac V V (As V V (Ab V (DS _ _ _) V (Ai V u1 V (Al (v := .int .i64 ((q.nest : Nat) : Int)) V V ?_ V (As V V (Ab V (DS _ _ _) V (An V V u2 (Ae ?_))))))))))
  · have := EH (w := w3) (t := 3) (a := ((q.nest + 1 : Nat) : Int)) (b := 1) (by unfold Bu; omega)
    rwa [show ((q.nest + 1 : Nat) : Int) - 1 = ((q.nest : Nat) : Int) by omega] at this
  exact Af (Aa (Ai V u3 V (An V V u4 (Ae (AA fun a ha => Ao (BE V ha V u5 u6))))))
 | false =>
 refine Bt V V (Ae (A9 V (A_ fun a ha => Ad ?_)))
 refine A8 ha (Dc [(0, ptr p), (2, ptr w.heap.size), (3, ptr w1.heap.size)] ⟨V, V, V, trivial⟩ ?_)
 have hkk : k + 1 ≤ 1000 := by have := (I2 hb).2; omega
 have hX := hX0 hkk
 have hI := hI0 hkk
 have hS := hS0 hkk
 have M := MQ.start (c := w1.heap.size) (tid := 36) (sz := [1, 1, 1, 1, 1, 1, 1, 1, 1, 1]) (all := (SN.fields .sheet)) (R := 7) (wa := w1) (Z := zsheet) h3 rfl b3 (Nat.le_refl _) h1.ln f13
 refine Af (Aa (Ac V V (Aj call77 V V (Fe _ _ M.st (M.nest.trans hk1)) ?_ Be)))
 intro _ w155 g
 obtain ⟨Cp, q154, rfl, M, H⟩ := M.read rfl (by decide) g
 obtain ⟨w156, hst, M⟩ := M.store (off := 0) 0 H Cc rfl rfl
 refine Ab V (G_ _ _ _) V (An V V hst (Ar [(0, ptr p), (2, ptr w.heap.size), (3, ptr w1.heap.size)] ⟨V, V, V, trivial⟩ ?_))
 refine Af (Aa (Ac V V (Aj call33 V V (JX M.st) ?_ Be)))
 intro v1 wl157 g1
 obtain ⟨n157, ql157, rfl, L0, hlen157, fl⟩ := LQ.start (X := fun b => b = p ∨ b = w1.heap.size) (e := .st .use) (tid := 48) M.st (.inl rfl) (fun b hb => hb.elim (fun e => e ▸ Nat.lt_of_lt_of_le M.st.lp M.st.ln) (fun e => e ▸ M.blk.lt)) g1
 have B0 : Blk wl157 w1.heap.size (((CN [1, 1, 1, 1, 1, 1, 1, 1, 1, 1] zsheet).set 0 Cp).set 1 [.slice none 0 0]).flatten 36 := (fl.blk _ M.blk.lt M.ne).trans M.blk
 have hcell157 : ∀ {w' : World} {v : Value}, Blk w' w1.heap.size (((CN [1, 1, 1, 1, 1, 1, 1, 1, 1, 1] zsheet).set 0 Cp).set 1 [v]).flatten 36 → w'.cell? ⟨w1.heap.size, 1, none⟩ = some v := fun {w' v} b => b.get (CS (((CN [1, 1, 1, 1, 1, 1, 1, 1, 1, 1] zsheet).set 0 Cp).set 1 [v]) [1, 1, 1, 1, 1, 1, 1, 1, 1, 1] 1 v (C1 ((CN [1, 1, 1, 1, 1, 1, 1, 1, 1, 1] zsheet).set 0 Cp) [1, 1, 1, 1, 1, 1, 1, 1, 1, 1] 1 [v] M.len rfl).2.1 rfl)
 obtain ⟨bytes, hei157, hby157⟩ : ∃ bytes, Ck prog 48 (Ty.size (.st .use)) bytes ∧ bytes ≤ 4096 := B7 (by kernel_rfl)
 refine Ah V V (Ar [(0, ptr p), (2, ptr w.heap.size), (3, ptr w1.heap.size), (4, .int .i64 ((n157 : Nat) : Int))] ⟨V, V, V, V, trivial⟩ ?_)
 refine B9 (ι := Value × World) (fun _ => [(0, ptr p), (2, ptr w.heap.size), (3, ptr w1.heap.size)]) (fun j w' => w' = j.2 ∧ ∃ q', MQ n0 p full w1.heap.size 36 [1, 1, 1, 1, 1, 1, 1, 1, 1, 1] (SN.fields .sheet) 7 w1 q.dn 2 (([] ++ [Cp]) ++ [[j.1]]) (((CN [1, 1, 1, 1, 1, 1, 1, 1, 1, 1] zsheet).set 0 Cp).set 1 [j.1]) q' w') ?_ ?_
 · refine Af (Aa (Ah V V (Ae ?_)))
   refine A1 (AW (ι := Nat × Value × World) (fun j => [(0, ptr p), (2, ptr w.heap.size), (3, ptr w1.heap.size), (4, .int .i64 ((n157 : Nat) : Int)), (5, .int .i64 ((j.1 : Nat) : Int))]) (fun j w' => w' = j.2.2 ∧ j.1 ≤ n157 ∧ ∃ l q', l.length = j.1 ∧ LQ n0 p full (fun b => b = p ∨ b = w1.heap.size) (.st .use) 48 w156 q154 ql157 n157 l j.2.1 q' w' ∧ Blk w' w1.heap.size (((CN [1, 1, 1, 1, 1, 1, 1, 1, 1, 1] zsheet).set 0 Cp).set 1 [j.2.1]).flatten 36) (fun j => n157 - j.1)
    (0, .slice none 0 0, wl157) ⟨V, V, V, V, V, trivial⟩ ⟨rfl, Nat.zero_le _, [], ql157, rfl, L0, B0⟩ ?_)
   clear L0 g1 B0 fl
   rintro ⟨i157, v157, _⟩ wi157 ⟨rfl, hi157, l157, qi157, hl157, L157, B157⟩
   simp only at hi157 hl157 L157 B157 ⊢
   refine Af (Af (Aa (Ac V V (Ac V V (Al V V (Bh (c := decide (i157 < n157)) (decide_eq_decide.2 Int.ofNat_lt.symm)) V (Ac V V ?_))))))
   obtain ⟨vb, vt, mm⟩ := L157.st.mem
   by_cases hin : i157 < n157
   rotate_left
   · rw [decide_eq_false hin]
     refine AY _ _ _ V (Ae (A9 V (AQ fun a ha => Aq (Aq (A3 (Ad ?_))))))
     exact ⟨(v157, wi157), ha.weak ⟨V, V, V, trivial⟩, rfl, qi157, M.list L157 hlen157 (.inr (by omega)) V (by decide) 1 B157 V⟩
   rw [decide_eq_true hin]
   refine Ag (j := 3) V V V (Ac V V (Ag (j := 3) V V V (As V V (Ag (j := 3) V V V (Ab V (BV _ _ _) V (Ag (j := 3) V V V (Ai V (A4 Ee (mm.blk.get V)) V (Ag (j := 3) V V V (Bt V V (AI V V V (Ae ?_)))))))))))
   cases hqb157 : qi157.bad with
   | true =>
    refine A9 V (AQ fun a ha => Aq (Aq (A3 (Ad ?_))))
    exact ⟨(v157, wi157), ha.weak ⟨V, V, V, trivial⟩, rfl, qi157, M.list L157 hlen157 (.inl hqb157) V (by decide) 1 B157 V⟩
   | false =>
   refine Ax V (A_ fun a ha => Ad ?_)
   refine A8 ha (Af (A1 (Hi CE ?_)))
   replace L157 := L157.turn (Fr.drewn 1)
   replace B157 := kb (Fr.drewn 1) B157
   generalize wi157.drewN 1 = wd157 at L157 B157 ⊢
   refine Ct (i := 0) V (by decide +kernel) (by repeat (first | with_reducible exact Bo | with_reducible apply Bl | with_reducible apply Br)) V (fun w => CQ w _ _) V (C7 (i := 2) V (by decide +kernel) (by repeat (first | with_reducible exact Bo | with_reducible apply Bl | with_reducible apply Br)) V V ?_)
   refine Gt (R := QGood n0 p full (.st .use) qi157 wd157) (Lf := #[true, true, true, true, true, false, false, false]) (fun vb => [(53, vb), (50, v157), (0, ptr p), (2, ptr w.heap.size), (3, ptr w1.heap.size), (4, .int .i64 ((n157 : Nat) : Int)), (5, .int .i64 ((i157 : Nat) : Int))]) V V V (by decide +kernel) (by decide +kernel) (by decide +kernel) (by decide +kernel) (by decide +kernel) (by decide +kernel) V V V V V V V (fun _ => rfl) (fun _ _ => rfl) V (fun _ => rfl) (fun _ _ => rfl) (fun _ => rfl) (fun _ _ => rfl) call78 ((Sg hS) _ _ L157.st (L157.nest.trans (M.nest.trans hk1)))
    (A4 Fl (hcell157 B157)) (fun x w1 g => ?_) (fun x w1 g => ?_) (fun _ _ => ⟨V, V, V, V, V, V, V, trivial⟩) (fun _ _ => ⟨V, V, V, V, V, V, V, trivial⟩) (fun _ _ => ⟨V, V, V, V, V, V, V, trivial⟩)
   · obtain ⟨t, q', cs, rfl, hrep, hst, f', _⟩ := g
     exact A4 Fl (hcell157 ((f'.blk _ B157.lt M.ne).trans B157))
   obtain ⟨vb2, w4, v', w5, t, q', hr1, hr2, L', hkp⟩ := L157.step (ty := 26) underlying26 hei157 hby157 (by decide) (by decide) hqb157 (by omega) g
   obtain ⟨hk1, hk2⟩ := hkp _ M.blk.lt M.ne
   obtain ⟨w6, hst, L', B'⟩ := L'.put (v' := v') (hk2.trans B157) M.len rfl (.inr rfl) M.ne (Nat.le_trans M.base M.c0) Fl
   refine ⟨vb2, w4, hr1, A4 Fl (hcell157 (hk1.trans B157)), AX (i := 5) (by decide +kernel) V (AU V V hr2 V (Ba (AX (i := 6) (by decide +kernel) V (Ab V (CQ _ _ _) V (Ba (AX (i := 7) (by decide +kernel) V (An V V hst (Ba (Cv (by decide +kernel) (fun a ha => Az (Ad ?_)))))))))))⟩
   refine A8 ha (Aa (Ac V V (Al V V V V (Ah V V (A2 fun a ha => Ad ?_)))))
   exact ⟨(i157 + 1, v', w6), ha.weak ⟨rfl, rfl, rfl, rfl, congrArg some (AS (by have := L157.lim; omega)), trivial⟩, ⟨rfl, by show i157 + 1 ≤ n157; omega, l157 ++ [t], q', by simp [hl157], L', B'⟩, by show n157 - (i157 + 1) < n157 - i157; omega⟩
 rintro ⟨cv158, _⟩ w160 ⟨rfl, q159, M⟩
 simp only at M ⊢
 refine Af (Aa (Ac V V (Aj call33 V V (JX M.st) ?_ Be)))
 intro v1 wl161 g1
 obtain ⟨n161, ql161, rfl, L0, hlen161, fl⟩ := LQ.start (X := fun b => b = p ∨ b = w1.heap.size) (e := .st .template) (tid := 74) M.st (.inl rfl) (fun b hb => hb.elim (fun e => e ▸ Nat.lt_of_lt_of_le M.st.lp M.st.ln) (fun e => e ▸ M.blk.lt)) g1
 have B0 : Blk wl161 w1.heap.size ((((CN [1, 1, 1, 1, 1, 1, 1, 1, 1, 1] zsheet).set 0 Cp).set 1 [cv158]).set 2 [.slice none 0 0]).flatten 36 := (fl.blk _ M.blk.lt M.ne).trans M.blk
 have hcell161 : ∀ {w' : World} {v : Value}, Blk w' w1.heap.size ((((CN [1, 1, 1, 1, 1, 1, 1, 1, 1, 1] zsheet).set 0 Cp).set 1 [cv158]).set 2 [v]).flatten 36 → w'.cell? ⟨w1.heap.size, 2, none⟩ = some v := fun {w' v} b => b.get (CS ((((CN [1, 1, 1, 1, 1, 1, 1, 1, 1, 1] zsheet).set 0 Cp).set 1 [cv158]).set 2 [v]) [1, 1, 1, 1, 1, 1, 1, 1, 1, 1] 2 v (C1 (((CN [1, 1, 1, 1, 1, 1, 1, 1, 1, 1] zsheet).set 0 Cp).set 1 [cv158]) [1, 1, 1, 1, 1, 1, 1, 1, 1, 1] 2 [v] M.len rfl).2.1 rfl)
 obtain ⟨bytes, hei161, hby161⟩ : ∃ bytes, Ck prog 74 (Ty.size (.st .template)) bytes ∧ bytes ≤ 4096 := B7 (by kernel_rfl)
 refine Ah V V (Ar [(0, ptr p), (2, ptr w.heap.size), (3, ptr w1.heap.size), (4, .int .i64 ((n161 : Nat) : Int))] ⟨V, V, V, V, trivial⟩ ?_)
 refine B9 (ι := Value × World) (fun _ => [(0, ptr p), (2, ptr w.heap.size), (3, ptr w1.heap.size)]) (fun j w' => w' = j.2 ∧ ∃ q', MQ n0 p full w1.heap.size 36 [1, 1, 1, 1, 1, 1, 1, 1, 1, 1] (SN.fields .sheet) 7 w1 q.dn 3 ((([] ++ [Cp]) ++ [[cv158]]) ++ [[j.1]]) ((((CN [1, 1, 1, 1, 1, 1, 1, 1, 1, 1] zsheet).set 0 Cp).set 1 [cv158]).set 2 [j.1]) q' w') ?_ ?_
 · refine Af (Aa (Ah V V (Ae ?_)))
   refine A1 (AW (ι := Nat × Value × World) (fun j => [(0, ptr p), (2, ptr w.heap.size), (3, ptr w1.heap.size), (4, .int .i64 ((n161 : Nat) : Int)), (6, .int .i64 ((j.1 : Nat) : Int))]) (fun j w' => w' = j.2.2 ∧ j.1 ≤ n161 ∧ ∃ l q', l.length = j.1 ∧ LQ n0 p full (fun b => b = p ∨ b = w1.heap.size) (.st .template) 74 w160 q159 ql161 n161 l j.2.1 q' w' ∧ Blk w' w1.heap.size ((((CN [1, 1, 1, 1, 1, 1, 1, 1, 1, 1] zsheet).set 0 Cp).set 1 [cv158]).set 2 [j.2.1]).flatten 36) (fun j => n161 - j.1)
    (0, .slice none 0 0, wl161) ⟨V, V, V, V, V, trivial⟩ ⟨rfl, Nat.zero_le _, [], ql161, rfl, L0, B0⟩ ?_)
   clear L0 g1 B0 fl
   rintro ⟨i161, v161, _⟩ wi161 ⟨rfl, hi161, l161, qi161, hl161, L161, B161⟩
   simp only at hi161 hl161 L161 B161 ⊢
   refine Af (Af (Aa (Ac V V (Ac V V (Al V V (Bh (c := decide (i161 < n161)) (decide_eq_decide.2 Int.ofNat_lt.symm)) V (Ac V V ?_))))))
   obtain ⟨vb, vt, mm⟩ := L161.st.mem
   by_cases hin : i161 < n161
   rotate_left
   · rw [decide_eq_false hin]
     refine AY _ _ _ V (Ae (A9 V (AQ fun a ha => Aq (Aq (A3 (Ad ?_))))))
     exact ⟨(v161, wi161), ha.weak ⟨V, V, V, trivial⟩, rfl, qi161, M.list L161 hlen161 (.inr (by omega)) V (by decide) 2 B161 V⟩
   rw [decide_eq_true hin]
   refine Ag (j := 3) V V V (Ac V V (Ag (j := 3) V V V (As V V (Ag (j := 3) V V V (Ab V (BV _ _ _) V (Ag (j := 3) V V V (Ai V (A4 Ee (mm.blk.get V)) V (Ag (j := 3) V V V (Bt V V (AI V V V (Ae ?_)))))))))))
   cases hqb161 : qi161.bad with
   | true =>
    refine A9 V (AQ fun a ha => Aq (Aq (A3 (Ad ?_))))
    exact ⟨(v161, wi161), ha.weak ⟨V, V, V, trivial⟩, rfl, qi161, M.list L161 hlen161 (.inl hqb161) V (by decide) 2 B161 V⟩
   | false =>
   refine Ax V (A_ fun a ha => Ad ?_)
   refine A8 ha (Af (A1 (Hi CE ?_)))
   replace L161 := L161.turn (Fr.drewn 1)
   replace B161 := kb (Fr.drewn 1) B161
   generalize wi161.drewN 1 = wd161 at L161 B161 ⊢
   refine Ct (i := 0) V (by decide +kernel) (by repeat (first | with_reducible exact Bo | with_reducible apply Bl | with_reducible apply Br)) V (fun w => G6 w _ _) V (C7 (i := 2) V (by decide +kernel) (by repeat (first | with_reducible exact Bo | with_reducible apply Bl | with_reducible apply Br)) V V ?_)
   refine Gt (R := QGood n0 p full (.st .template) qi161 wd161) (Lf := #[true, true, true, true, true, false, false, false]) (fun vb => [(74, vb), (71, v161), (0, ptr p), (2, ptr w.heap.size), (3, ptr w1.heap.size), (4, .int .i64 ((n161 : Nat) : Int)), (6, .int .i64 ((i161 : Nat) : Int))]) V V V (by decide +kernel) (by decide +kernel) (by decide +kernel) (by decide +kernel) (by decide +kernel) (by decide +kernel) V V V V V V V (fun _ => rfl) (fun _ _ => rfl) V (fun _ => rfl) (fun _ _ => rfl) (fun _ => rfl) (fun _ _ => rfl) call79 ((RZ hX hI) _ _ L161.st (L161.nest.trans (M.nest.trans hk1)))
    (A4 KY (hcell161 B161)) (fun x w1 g => ?_) (fun x w1 g => ?_) (fun _ _ => ⟨V, V, V, V, V, V, V, trivial⟩) (fun _ _ => ⟨V, V, V, V, V, V, V, trivial⟩) (fun _ _ => ⟨V, V, V, V, V, V, V, trivial⟩)
   · obtain ⟨t, q', cs, rfl, hrep, hst, f', _⟩ := g
     exact A4 KY (hcell161 ((f'.blk _ B161.lt M.ne).trans B161))
   obtain ⟨vb2, w4, v', w5, t, q', hr1, hr2, L', hkp⟩ := L161.step (ty := 27) underlying27 hei161 hby161 (by decide) (by decide) hqb161 (by omega) g
   obtain ⟨hk1, hk2⟩ := hkp _ M.blk.lt M.ne
   obtain ⟨w6, hst, L', B'⟩ := L'.put (v' := v') (hk2.trans B161) M.len rfl (.inr rfl) M.ne (Nat.le_trans M.base M.c0) KY
   refine ⟨vb2, w4, hr1, A4 KY (hcell161 (hk1.trans B161)), AX (i := 5) (by decide +kernel) V (AU V V hr2 V (Ba (AX (i := 6) (by decide +kernel) V (Ab V (G6 _ _ _) V (Ba (AX (i := 7) (by decide +kernel) V (An V V hst (Ba (Cv (by decide +kernel) (fun a ha => Az (Ad ?_)))))))))))⟩
   refine A8 ha (Aa (Ac V V (Al V V V V (Ah V V (A2 fun a ha => Ad ?_)))))
   exact ⟨(i161 + 1, v', w6), ha.weak ⟨rfl, rfl, rfl, rfl, congrArg some (AS (by have := L161.lim; omega)), trivial⟩, ⟨rfl, by show i161 + 1 ≤ n161; omega, l161 ++ [t], q', by simp [hl161], L', B'⟩, by show n161 - (i161 + 1) < n161 - i161; omega⟩
 rintro ⟨cv162, _⟩ w164 ⟨rfl, q163, M⟩
 simp only at M ⊢
 refine Af (Aa (Ac V V (Aj call33 V V (JX M.st) ?_ Be)))
 intro v1 wl165 g1
 obtain ⟨n165, ql165, rfl, L0, hlen165, fl⟩ := LQ.start (X := fun b => b = p ∨ b = w1.heap.size) (e := .st .dfn) (tid := 140) M.st (.inl rfl) (fun b hb => hb.elim (fun e => e ▸ Nat.lt_of_lt_of_le M.st.lp M.st.ln) (fun e => e ▸ M.blk.lt)) g1
 have B0 : Blk wl165 w1.heap.size (((((CN [1, 1, 1, 1, 1, 1, 1, 1, 1, 1] zsheet).set 0 Cp).set 1 [cv158]).set 2 [cv162]).set 3 [.slice none 0 0]).flatten 36 := (fl.blk _ M.blk.lt M.ne).trans M.blk
 have hcell165 : ∀ {w' : World} {v : Value}, Blk w' w1.heap.size (((((CN [1, 1, 1, 1, 1, 1, 1, 1, 1, 1] zsheet).set 0 Cp).set 1 [cv158]).set 2 [cv162]).set 3 [v]).flatten 36 → w'.cell? ⟨w1.heap.size, 3, none⟩ = some v := fun {w' v} b => b.get (CS (((((CN [1, 1, 1, 1, 1, 1, 1, 1, 1, 1] zsheet).set 0 Cp).set 1 [cv158]).set 2 [cv162]).set 3 [v]) [1, 1, 1, 1, 1, 1, 1, 1, 1, 1] 3 v (C1 ((((CN [1, 1, 1, 1, 1, 1, 1, 1, 1, 1] zsheet).set 0 Cp).set 1 [cv158]).set 2 [cv162]) [1, 1, 1, 1, 1, 1, 1, 1, 1, 1] 3 [v] M.len rfl).2.1 rfl)
 obtain ⟨bytes, hei165, hby165⟩ : ∃ bytes, Ck prog 140 (Ty.size (.st .dfn)) bytes ∧ bytes ≤ 4096 := B7 (by kernel_rfl)
 refine Ah V V (Ar [(0, ptr p), (2, ptr w.heap.size), (3, ptr w1.heap.size), (4, .int .i64 ((n165 : Nat) : Int))] ⟨V, V, V, V, trivial⟩ ?_)
 refine B9 (ι := Value × World) (fun _ => [(0, ptr p), (2, ptr w.heap.size), (3, ptr w1.heap.size)]) (fun j w' => w' = j.2 ∧ ∃ q', MQ n0 p full w1.heap.size 36 [1, 1, 1, 1, 1, 1, 1, 1, 1, 1] (SN.fields .sheet) 7 w1 q.dn 4 (((([] ++ [Cp]) ++ [[cv158]]) ++ [[cv162]]) ++ [[j.1]]) (((((CN [1, 1, 1, 1, 1, 1, 1, 1, 1, 1] zsheet).set 0 Cp).set 1 [cv158]).set 2 [cv162]).set 3 [j.1]) q' w') ?_ ?_
 · refine Af (Aa (Ah V V (Ae ?_)))
   refine A1 (AW (ι := Nat × Value × World) (fun j => [(0, ptr p), (2, ptr w.heap.size), (3, ptr w1.heap.size), (4, .int .i64 ((n165 : Nat) : Int)), (7, .int .i64 ((j.1 : Nat) : Int))]) (fun j w' => w' = j.2.2 ∧ j.1 ≤ n165 ∧ ∃ l q', l.length = j.1 ∧ LQ n0 p full (fun b => b = p ∨ b = w1.heap.size) (.st .dfn) 140 w164 q163 ql165 n165 l j.2.1 q' w' ∧ Blk w' w1.heap.size (((((CN [1, 1, 1, 1, 1, 1, 1, 1, 1, 1] zsheet).set 0 Cp).set 1 [cv158]).set 2 [cv162]).set 3 [j.2.1]).flatten 36) (fun j => n165 - j.1)
    (0, .slice none 0 0, wl165) ⟨V, V, V, V, V, trivial⟩ ⟨rfl, Nat.zero_le _, [], ql165, rfl, L0, B0⟩ ?_)
   clear L0 g1 B0 fl
   rintro ⟨i165, v165, _⟩ wi165 ⟨rfl, hi165, l165, qi165, hl165, L165, B165⟩
   simp only at hi165 hl165 L165 B165 ⊢
   refine Af (Af (Aa (Ac V V (Ac V V (Al V V (Bh (c := decide (i165 < n165)) (decide_eq_decide.2 Int.ofNat_lt.symm)) V (Ac V V ?_))))))
   obtain ⟨vb, vt, mm⟩ := L165.st.mem
   by_cases hin : i165 < n165
   rotate_left
   · rw [decide_eq_false hin]
     refine AY _ _ _ V (Ae (A9 V (AQ fun a ha => Aq (Aq (A3 (Ad ?_))))))
     exact ⟨(v165, wi165), ha.weak ⟨V, V, V, trivial⟩, rfl, qi165, M.list L165 hlen165 (.inr (by omega)) V (by decide) 3 B165 V⟩
   rw [decide_eq_true hin]
   refine Ag (j := 3) V V V (Ac V V (Ag (j := 3) V V V (As V V (Ag (j := 3) V V V (Ab V (BV _ _ _) V (Ag (j := 3) V V V (Ai V (A4 Ee (mm.blk.get V)) V (Ag (j := 3) V V V (Bt V V (AI V V V (Ae ?_)))))))))))
   cases hqb165 : qi165.bad with
   | true =>
    refine A9 V (AQ fun a ha => Aq (Aq (A3 (Ad ?_))))
    exact ⟨(v165, wi165), ha.weak ⟨V, V, V, trivial⟩, rfl, qi165, M.list L165 hlen165 (.inl hqb165) V (by decide) 3 B165 V⟩
   | false =>
   refine Ax V (A_ fun a ha => Ad ?_)
   refine A8 ha (Af (A1 (Hi CE ?_)))
   replace L165 := L165.turn (Fr.drewn 1)
   replace B165 := kb (Fr.drewn 1) B165
   generalize wi165.drewN 1 = wd165 at L165 B165 ⊢
   refine Ct (i := 0) V (by decide +kernel) (by repeat (first | with_reducible exact Bo | with_reducible apply Bl | with_reducible apply Br)) V (fun w => GF w _ _) V (C7 (i := 2) V (by decide +kernel) (by repeat (first | with_reducible exact Bo | with_reducible apply Bl | with_reducible apply Br)) V V ?_)
   refine Gt (R := QGood n0 p full (.st .dfn) qi165 wd165) (Lf := #[true, true, true, true, true, false, false, false]) (fun vb => [(95, vb), (92, v165), (0, ptr p), (2, ptr w.heap.size), (3, ptr w1.heap.size), (4, .int .i64 ((n165 : Nat) : Int)), (7, .int .i64 ((i165 : Nat) : Int))]) V V V (by decide +kernel) (by decide +kernel) (by decide +kernel) (by decide +kernel) (by decide +kernel) (by decide +kernel) V V V V V V V (fun _ => rfl) (fun _ _ => rfl) V (fun _ => rfl) (fun _ _ => rfl) (fun _ => rfl) (fun _ _ => rfl) call80 ((Sb hX hI) _ _ L165.st (L165.nest.trans (M.nest.trans hk1)))
    (A4 Lg (hcell165 B165)) (fun x w1 g => ?_) (fun x w1 g => ?_) (fun _ _ => ⟨V, V, V, V, V, V, V, trivial⟩) (fun _ _ => ⟨V, V, V, V, V, V, V, trivial⟩) (fun _ _ => ⟨V, V, V, V, V, V, V, trivial⟩)
   · obtain ⟨t, q', cs, rfl, hrep, hst, f', _⟩ := g
     exact A4 Lg (hcell165 ((f'.blk _ B165.lt M.ne).trans B165))
   obtain ⟨vb2, w4, v', w5, t, q', hr1, hr2, L', hkp⟩ := L165.step (ty := 28) underlying28 hei165 hby165 (by decide) (by decide) hqb165 (by omega) g
   obtain ⟨hk1, hk2⟩ := hkp _ M.blk.lt M.ne
   obtain ⟨w6, hst, L', B'⟩ := L'.put (v' := v') (hk2.trans B165) M.len rfl (.inr rfl) M.ne (Nat.le_trans M.base M.c0) Lg
   refine ⟨vb2, w4, hr1, A4 Lg (hcell165 (hk1.trans B165)), AX (i := 5) (by decide +kernel) V (AU V V hr2 V (Ba (AX (i := 6) (by decide +kernel) V (Ab V (GF _ _ _) V (Ba (AX (i := 7) (by decide +kernel) V (An V V hst (Ba (Cv (by decide +kernel) (fun a ha => Az (Ad ?_)))))))))))⟩
   refine A8 ha (Aa (Ac V V (Al V V V V (Ah V V (A2 fun a ha => Ad ?_)))))
   exact ⟨(i165 + 1, v', w6), ha.weak ⟨rfl, rfl, rfl, rfl, congrArg some (AS (by have := L165.lim; omega)), trivial⟩, ⟨rfl, by show i165 + 1 ≤ n165; omega, l165 ++ [t], q', by simp [hl165], L', B'⟩, by show n165 - (i165 + 1) < n165 - i165; omega⟩
 rintro ⟨cv166, _⟩ w168 ⟨rfl, q167, M⟩
 simp only at M ⊢
 refine Af (Aa (Ac V V (Aj call33 V V (JX M.st) ?_ Be)))
 intro v1 wl169 g1
 obtain ⟨n169, ql169, rfl, L0, hlen169, fl⟩ := LQ.start (X := fun b => b = p ∨ b = w1.heap.size) (e := .st .global) (tid := 144) M.st (.inl rfl) (fun b hb => hb.elim (fun e => e ▸ Nat.lt_of_lt_of_le M.st.lp M.st.ln) (fun e => e ▸ M.blk.lt)) g1
 have B0 : Blk wl169 w1.heap.size ((((((CN [1, 1, 1, 1, 1, 1, 1, 1, 1, 1] zsheet).set 0 Cp).set 1 [cv158]).set 2 [cv162]).set 3 [cv166]).set 4 [.slice none 0 0]).flatten 36 := (fl.blk _ M.blk.lt M.ne).trans M.blk
 have hcell169 : ∀ {w' : World} {v : Value}, Blk w' w1.heap.size ((((((CN [1, 1, 1, 1, 1, 1, 1, 1, 1, 1] zsheet).set 0 Cp).set 1 [cv158]).set 2 [cv162]).set 3 [cv166]).set 4 [v]).flatten 36 → w'.cell? ⟨w1.heap.size, 4, none⟩ = some v := fun {w' v} b => b.get (CS ((((((CN [1, 1, 1, 1, 1, 1, 1, 1, 1, 1] zsheet).set 0 Cp).set 1 [cv158]).set 2 [cv162]).set 3 [cv166]).set 4 [v]) [1, 1, 1, 1, 1, 1, 1, 1, 1, 1] 4 v (C1 (((((CN [1, 1, 1, 1, 1, 1, 1, 1, 1, 1] zsheet).set 0 Cp).set 1 [cv158]).set 2 [cv162]).set 3 [cv166]) [1, 1, 1, 1, 1, 1, 1, 1, 1, 1] 4 [v] M.len rfl).2.1 rfl)
 obtain ⟨bytes, hei169, hby169⟩ : ∃ bytes, Ck prog 144 (Ty.size (.st .global)) bytes ∧ bytes ≤ 4096 := B7 (by kernel_rfl)
 refine Ah V V (Ar [(0, ptr p), (2, ptr w.heap.size), (3, ptr w1.heap.size), (4, .int .i64 ((n169 : Nat) : Int))] ⟨V, V, V, V, trivial⟩ ?_)
 refine B9 (ι := Value × World) (fun _ => [(0, ptr p), (2, ptr w.heap.size), (3, ptr w1.heap.size)]) (fun j w' => w' = j.2 ∧ ∃ q', MQ n0 p full w1.heap.size 36 [1, 1, 1, 1, 1, 1, 1, 1, 1, 1] (SN.fields .sheet) 7 w1 q.dn 5 ((((([] ++ [Cp]) ++ [[cv158]]) ++ [[cv162]]) ++ [[cv166]]) ++ [[j.1]]) ((((((CN [1, 1, 1, 1, 1, 1, 1, 1, 1, 1] zsheet).set 0 Cp).set 1 [cv158]).set 2 [cv162]).set 3 [cv166]).set 4 [j.1]) q' w') ?_ ?_
 · refine Af (Aa (Ah V V (Ae ?_)))
   refine A1 (AW (ι := Nat × Value × World) (fun j => [(0, ptr p), (2, ptr w.heap.size), (3, ptr w1.heap.size), (4, .int .i64 ((n169 : Nat) : Int)), (8, .int .i64 ((j.1 : Nat) : Int))]) (fun j w' => w' = j.2.2 ∧ j.1 ≤ n169 ∧ ∃ l q', l.length = j.1 ∧ LQ n0 p full (fun b => b = p ∨ b = w1.heap.size) (.st .global) 144 w168 q167 ql169 n169 l j.2.1 q' w' ∧ Blk w' w1.heap.size ((((((CN [1, 1, 1, 1, 1, 1, 1, 1, 1, 1] zsheet).set 0 Cp).set 1 [cv158]).set 2 [cv162]).set 3 [cv166]).set 4 [j.2.1]).flatten 36) (fun j => n169 - j.1)
    (0, .slice none 0 0, wl169) ⟨V, V, V, V, V, trivial⟩ ⟨rfl, Nat.zero_le _, [], ql169, rfl, L0, B0⟩ ?_)
   clear L0 g1 B0 fl
   rintro ⟨i169, v169, _⟩ wi169 ⟨rfl, hi169, l169, qi169, hl169, L169, B169⟩
   simp only at hi169 hl169 L169 B169 ⊢
   refine Af (Af (Aa (Ac V V (Ac V V (Al V V (Bh (c := decide (i169 < n169)) (decide_eq_decide.2 Int.ofNat_lt.symm)) V (Ac V V ?_))))))
   obtain ⟨vb, vt, mm⟩ := L169.st.mem
   by_cases hin : i169 < n169
   rotate_left
   · rw [decide_eq_false hin]
     refine AY _ _ _ V (Ae (A9 V (AQ fun a ha => Aq (Aq (A3 (Ad ?_))))))
     exact ⟨(v169, wi169), ha.weak ⟨V, V, V, trivial⟩, rfl, qi169, M.list L169 hlen169 (.inr (by omega)) V (by decide) 4 B169 V⟩
   rw [decide_eq_true hin]
   refine Ag (j := 3) V V V (Ac V V (Ag (j := 3) V V V (As V V (Ag (j := 3) V V V (Ab V (BV _ _ _) V (Ag (j := 3) V V V (Ai V (A4 Ee (mm.blk.get V)) V (Ag (j := 3) V V V (Bt V V (AI V V V (Ae ?_)))))))))))
   cases hqb169 : qi169.bad with
   | true =>
    refine A9 V (AQ fun a ha => Aq (Aq (A3 (Ad ?_))))
    exact ⟨(v169, wi169), ha.weak ⟨V, V, V, trivial⟩, rfl, qi169, M.list L169 hlen169 (.inl hqb169) V (by decide) 4 B169 V⟩
   | false =>
   refine Ax V (A_ fun a ha => Ad ?_)
   refine A8 ha (Af (A1 (Hi CE ?_)))
   replace L169 := L169.turn (Fr.drewn 1)
   replace B169 := kb (Fr.drewn 1) B169
   generalize wi169.drewN 1 = wd169 at L169 B169 ⊢
   refine Ct (i := 0) V (by decide +kernel) (by repeat (first | with_reducible exact Bo | with_reducible apply Bl | with_reducible apply Br)) V (fun w => GD w _ _) V (C7 (i := 2) V (by decide +kernel) (by repeat (first | with_reducible exact Bo | with_reducible apply Bl | with_reducible apply Br)) V V ?_)
   refine Gt (R := QGood n0 p full (.st .global) qi169 wd169) (Lf := #[true, true, true, true, true, false, false, false]) (fun vb => [(116, vb), (113, v169), (0, ptr p), (2, ptr w.heap.size), (3, ptr w1.heap.size), (4, .int .i64 ((n169 : Nat) : Int)), (8, .int .i64 ((i169 : Nat) : Int))]) V V V (by decide +kernel) (by decide +kernel) (by decide +kernel) (by decide +kernel) (by decide +kernel) (by decide +kernel) V V V V V V V (fun _ => rfl) (fun _ _ => rfl) V (fun _ => rfl) (fun _ _ => rfl) (fun _ => rfl) (fun _ _ => rfl) call81 ((Mf hX hI) _ _ L169.st (L169.nest.trans (M.nest.trans hk1)))
    (A4 KX (hcell169 B169)) (fun x w1 g => ?_) (fun x w1 g => ?_) (fun _ _ => ⟨V, V, V, V, V, V, V, trivial⟩) (fun _ _ => ⟨V, V, V, V, V, V, V, trivial⟩) (fun _ _ => ⟨V, V, V, V, V, V, V, trivial⟩)
   · obtain ⟨t, q', cs, rfl, hrep, hst, f', _⟩ := g
     exact A4 KX (hcell169 ((f'.blk _ B169.lt M.ne).trans B169))
   obtain ⟨vb2, w4, v', w5, t, q', hr1, hr2, L', hkp⟩ := L169.step (ty := 29) underlying29 hei169 hby169 (by decide) (by decide) hqb169 (by omega) g
   obtain ⟨hk1, hk2⟩ := hkp _ M.blk.lt M.ne
   obtain ⟨w6, hst, L', B'⟩ := L'.put (v' := v') (hk2.trans B169) M.len rfl (.inr rfl) M.ne (Nat.le_trans M.base M.c0) KX
   refine ⟨vb2, w4, hr1, A4 KX (hcell169 (hk1.trans B169)), AX (i := 5) (by decide +kernel) V (AU V V hr2 V (Ba (AX (i := 6) (by decide +kernel) V (Ab V (GD _ _ _) V (Ba (AX (i := 7) (by decide +kernel) V (An V V hst (Ba (Cv (by decide +kernel) (fun a ha => Az (Ad ?_)))))))))))⟩
   refine A8 ha (Aa (Ac V V (Al V V V V (Ah V V (A2 fun a ha => Ad ?_)))))
   exact ⟨(i169 + 1, v', w6), ha.weak ⟨rfl, rfl, rfl, rfl, congrArg some (AS (by have := L169.lim; omega)), trivial⟩, ⟨rfl, by show i169 + 1 ≤ n169; omega, l169 ++ [t], q', by simp [hl169], L', B'⟩, by show n169 - (i169 + 1) < n169 - i169; omega⟩
 rintro ⟨cv170, _⟩ w172 ⟨rfl, q171, M⟩
 simp only at M ⊢
 refine Af (Aa (Ac V V (Aj call33 V V (JX M.st) ?_ Be)))
 intro v1 wl173 g1
 obtain ⟨n173, ql173, rfl, L0, hlen173, fl⟩ := LQ.start (X := fun b => b = p ∨ b = w1.heap.size) (e := .st .key) (tid := 76) M.st (.inl rfl) (fun b hb => hb.elim (fun e => e ▸ Nat.lt_of_lt_of_le M.st.lp M.st.ln) (fun e => e ▸ M.blk.lt)) g1
 have B0 : Blk wl173 w1.heap.size (((((((CN [1, 1, 1, 1, 1, 1, 1, 1, 1, 1] zsheet).set 0 Cp).set 1 [cv158]).set 2 [cv162]).set 3 [cv166]).set 4 [cv170]).set 5 [.slice none 0 0]).flatten 36 := (fl.blk _ M.blk.lt M.ne).trans M.blk
 have hcell173 : ∀ {w' : World} {v : Value}, Blk w' w1.heap.size (((((((CN [1, 1, 1, 1, 1, 1, 1, 1, 1, 1] zsheet).set 0 Cp).set 1 [cv158]).set 2 [cv162]).set 3 [cv166]).set 4 [cv170]).set 5 [v]).flatten 36 → w'.cell? ⟨w1.heap.size, 5, none⟩ = some v := fun {w' v} b => b.get (CS (((((((CN [1, 1, 1, 1, 1, 1, 1, 1, 1, 1] zsheet).set 0 Cp).set 1 [cv158]).set 2 [cv162]).set 3 [cv166]).set 4 [cv170]).set 5 [v]) [1, 1, 1, 1, 1, 1, 1, 1, 1, 1] 5 v (C1 ((((((CN [1, 1, 1, 1, 1, 1, 1, 1, 1, 1] zsheet).set 0 Cp).set 1 [cv158]).set 2 [cv162]).set 3 [cv166]).set 4 [cv170]) [1, 1, 1, 1, 1, 1, 1, 1, 1, 1] 5 [v] M.len rfl).2.1 rfl)
 obtain ⟨bytes, hei173, hby173⟩ : ∃ bytes, Ck prog 76 (Ty.size (.st .key)) bytes ∧ bytes ≤ 4096 := B7 (by kernel_rfl)
 refine Ah V V (Ar [(0, ptr p), (2, ptr w.heap.size), (3, ptr w1.heap.size), (4, .int .i64 ((n173 : Nat) : Int))] ⟨V, V, V, V, trivial⟩ ?_)
 refine B9 (ι := Value × World) (fun _ => [(0, ptr p), (2, ptr w.heap.size), (3, ptr w1.heap.size)]) (fun j w' => w' = j.2 ∧ ∃ q', MQ n0 p full w1.heap.size 36 [1, 1, 1, 1, 1, 1, 1, 1, 1, 1] (SN.fields .sheet) 7 w1 q.dn 6 (((((([] ++ [Cp]) ++ [[cv158]]) ++ [[cv162]]) ++ [[cv166]]) ++ [[cv170]]) ++ [[j.1]]) (((((((CN [1, 1, 1, 1, 1, 1, 1, 1, 1, 1] zsheet).set 0 Cp).set 1 [cv158]).set 2 [cv162]).set 3 [cv166]).set 4 [cv170]).set 5 [j.1]) q' w') ?_ ?_
 · refine Af (Aa (Ah V V (Ae ?_)))
   refine A1 (AW (ι := Nat × Value × World) (fun j => [(0, ptr p), (2, ptr w.heap.size), (3, ptr w1.heap.size), (4, .int .i64 ((n173 : Nat) : Int)), (9, .int .i64 ((j.1 : Nat) : Int))]) (fun j w' => w' = j.2.2 ∧ j.1 ≤ n173 ∧ ∃ l q', l.length = j.1 ∧ LQ n0 p full (fun b => b = p ∨ b = w1.heap.size) (.st .key) 76 w172 q171 ql173 n173 l j.2.1 q' w' ∧ Blk w' w1.heap.size (((((((CN [1, 1, 1, 1, 1, 1, 1, 1, 1, 1] zsheet).set 0 Cp).set 1 [cv158]).set 2 [cv162]).set 3 [cv166]).set 4 [cv170]).set 5 [j.2.1]).flatten 36) (fun j => n173 - j.1)
    (0, .slice none 0 0, wl173) ⟨V, V, V, V, V, trivial⟩ ⟨rfl, Nat.zero_le _, [], ql173, rfl, L0, B0⟩ ?_)
   clear L0 g1 B0 fl
   rintro ⟨i173, v173, _⟩ wi173 ⟨rfl, hi173, l173, qi173, hl173, L173, B173⟩
   simp only at hi173 hl173 L173 B173 ⊢
   refine Af (Af (Aa (Ac V V (Ac V V (Al V V (Bh (c := decide (i173 < n173)) (decide_eq_decide.2 Int.ofNat_lt.symm)) V (Ac V V ?_))))))
   obtain ⟨vb, vt, mm⟩ := L173.st.mem
   by_cases hin : i173 < n173
   rotate_left
   · rw [decide_eq_false hin]
     refine AY _ _ _ V (Ae (A9 V (AQ fun a ha => Aq (Aq (A3 (Ad ?_))))))
     exact ⟨(v173, wi173), ha.weak ⟨V, V, V, trivial⟩, rfl, qi173, M.list L173 hlen173 (.inr (by omega)) V (by decide) 5 B173 V⟩
   rw [decide_eq_true hin]
   refine Ag (j := 3) V V V (Ac V V (Ag (j := 3) V V V (As V V (Ag (j := 3) V V V (Ab V (BV _ _ _) V (Ag (j := 3) V V V (Ai V (A4 Ee (mm.blk.get V)) V (Ag (j := 3) V V V (Bt V V (AI V V V (Ae ?_)))))))))))
   cases hqb173 : qi173.bad with
   | true =>
    refine A9 V (AQ fun a ha => Aq (Aq (A3 (Ad ?_))))
    exact ⟨(v173, wi173), ha.weak ⟨V, V, V, trivial⟩, rfl, qi173, M.list L173 hlen173 (.inl hqb173) V (by decide) 5 B173 V⟩
   | false =>
   refine Ax V (A_ fun a ha => Ad ?_)
   obtain ⟨Z173, hz173, hzl173⟩ : ∃ Z : List Value, (∀ w, (zeroValue 76).run prog w = .ok (.agg Z.toArray) w) ∧ Z.length = Cy [1, 1, 16] := ⟨_, zeroValue76, rfl⟩
   refine A8 ha (Af (A1 (Af (Aa (AO (z := .agg Z173.toArray) (hz173 _) V (Ar [(0, ptr p), (2, ptr w.heap.size), (3, ptr w1.heap.size), (4, .int .i64 ((n173 : Nat) : Int)), (9, .int .i64 ((i173 : Nat) : Int)), (10, ptr wi173.heap.size)] ⟨V, V, V, V, V, V, trivial⟩ ?_))))))
   have N173 := MQ.new (tid := 76) (sz := [1, 1, 16]) (all := SN.fields .key) (R := IR .key - 1) (Z := Z173) L173.st hzl173
   show W _ _ _ _ _ _ (wi173.alloc (.cells (Z173 : List Value).toArray 76))
   generalize wi173.alloc (.cells (Z173 : List Value).toArray 76) = ws173 at N173 ⊢
   refine Af (Aa (Ac V V (Aj call77 V V (Fe _ _ N173.st (N173.nest.trans (L173.nest.trans (M.nest.trans hk1)))) ?_ Be)))
   intro _ w176 g
   obtain ⟨c174, q175, rfl, N173, H⟩ := N173.read rfl (by decide) g
   obtain ⟨w177, hst, N173⟩ := N173.store (off := 0) 0 H Cc rfl rfl
   refine Ab V (Hy _ _ _) V (An V V hst (Ar [(0, ptr p), (2, ptr w.heap.size), (3, ptr w1.heap.size), (4, .int .i64 ((n173 : Nat) : Int)), (9, .int .i64 ((i173 : Nat) : Int)), (10, ptr wi173.heap.size)] ⟨V, V, V, V, V, V, trivial⟩ ?_))
   refine Af (Aa (Ac V V (Aj call82 V V ((QC hX) _ _ N173.st (N173.nest.trans (L173.nest.trans (M.nest.trans hk1)))) ?_ Be)))
   intro _ w180 g
   obtain ⟨c178, q179, rfl, N173, H⟩ := N173.read rfl (by decide) g
   obtain ⟨w181, hst, N173⟩ := N173.store (off := 1) 1 H Eh rfl rfl
   refine Ab V (Ia _ _ _) V (An V V hst (Ar [(0, ptr p), (2, ptr w.heap.size), (3, ptr w1.heap.size), (4, .int .i64 ((n173 : Nat) : Int)), (9, .int .i64 ((i173 : Nat) : Int)), (10, ptr wi173.heap.size)] ⟨V, V, V, V, V, V, trivial⟩ ?_))
   refine Af (Aa (Ac V V (Aj call83 V V (hX _ _ N173.st (N173.nest.trans (L173.nest.trans (M.nest.trans hk1)))) ?_ Be)))
   intro _ w184 g
   obtain ⟨c182, q183, rfl, N173, H⟩ := N173.read rfl (by decide) g
   obtain ⟨w185, hst, N173⟩ := N173.store (off := 2) 2 H BY rfl rfl
   refine Ab V (HK _ _ _) V (An V V hst (Ar [(0, ptr p), (2, ptr w.heap.size), (3, ptr w1.heap.size), (4, .int .i64 ((n173 : Nat) : Int)), (9, .int .i64 ((i173 : Nat) : Int)), (10, ptr wi173.heap.size)] ⟨V, V, V, V, V, V, trivial⟩ ?_))
   obtain ⟨hl6, _, _⟩ := N173.val rfl
   have g := N173.good (sn := .key) rfl rfl
   obtain ⟨vb2, w4, v', w5, t, q', hr1, hr2, L', hkp⟩ := L173.step (ty := 30) underlying30 hei173 hby173 (by decide) (by decide) hqb173 (by omega) g
   obtain ⟨hk1, hk2⟩ := hkp _ M.blk.lt M.ne
   obtain ⟨w6, hst, L', B'⟩ := L'.put (v' := v') (hk2.trans B173) M.len rfl (.inr rfl) M.ne (Nat.le_trans M.base M.c0) Kn
   have BN := (N173.frame.blk _ B173.lt M.ne).trans B173
   refine Aa (Ab V (DY _ _ _) V (Ai V (A4 Kn (hcell173 BN)) V (Ai V (Bg Ha hl6 N173.blk.all) V (A7 V hr1 V (AU V V hr2 V (Ab V (DY _ _ _) V (An V V hst (A2 fun a ha => Az (Ad ?_)))))))))
   refine A8 ha (Aa (Ac V V (Al V V V V (Ah V V (A2 fun a ha => Ad ?_)))))
   exact ⟨(i173 + 1, v', w6), ha.weak ⟨rfl, rfl, rfl, rfl, congrArg some (AS (by have := L173.lim; omega)), trivial⟩, ⟨rfl, by show i173 + 1 ≤ n173; omega, l173 ++ [t], q', by simp [hl173], L', B'⟩, by show n173 - (i173 + 1) < n173 - i173; omega⟩
 rintro ⟨cv186, _⟩ w188 ⟨rfl, q187, M⟩
 simp only at M ⊢
 refine Af (Aa (Ac V V (Aj call33 V V (JX M.st) ?_ Be)))
 intro v1 wl189 g1
 obtain ⟨n189, ql189, rfl, L0, hlen189, fl⟩ := LQ.start (X := fun b => b = p ∨ b = w1.heap.size) (e := .st .accum) (tid := 151) M.st (.inl rfl) (fun b hb => hb.elim (fun e => e ▸ Nat.lt_of_lt_of_le M.st.lp M.st.ln) (fun e => e ▸ M.blk.lt)) g1
 have B0 : Blk wl189 w1.heap.size ((((((((CN [1, 1, 1, 1, 1, 1, 1, 1, 1, 1] zsheet).set 0 Cp).set 1 [cv158]).set 2 [cv162]).set 3 [cv166]).set 4 [cv170]).set 5 [cv186]).set 6 [.slice none 0 0]).flatten 36 := (fl.blk _ M.blk.lt M.ne).trans M.blk
 have hcell189 : ∀ {w' : World} {v : Value}, Blk w' w1.heap.size ((((((((CN [1, 1, 1, 1, 1, 1, 1, 1, 1, 1] zsheet).set 0 Cp).set 1 [cv158]).set 2 [cv162]).set 3 [cv166]).set 4 [cv170]).set 5 [cv186]).set 6 [v]).flatten 36 → w'.cell? ⟨w1.heap.size, 6, none⟩ = some v := fun {w' v} b => b.get (CS ((((((((CN [1, 1, 1, 1, 1, 1, 1, 1, 1, 1] zsheet).set 0 Cp).set 1 [cv158]).set 2 [cv162]).set 3 [cv166]).set 4 [cv170]).set 5 [cv186]).set 6 [v]) [1, 1, 1, 1, 1, 1, 1, 1, 1, 1] 6 v (C1 (((((((CN [1, 1, 1, 1, 1, 1, 1, 1, 1, 1] zsheet).set 0 Cp).set 1 [cv158]).set 2 [cv162]).set 3 [cv166]).set 4 [cv170]).set 5 [cv186]) [1, 1, 1, 1, 1, 1, 1, 1, 1, 1] 6 [v] M.len rfl).2.1 rfl)
 obtain ⟨bytes, hei189, hby189⟩ : ∃ bytes, Ck prog 151 (Ty.size (.st .accum)) bytes ∧ bytes ≤ 4096 := B7 (by kernel_rfl)
 refine Ah V V (Ar [(0, ptr p), (2, ptr w.heap.size), (3, ptr w1.heap.size), (4, .int .i64 ((n189 : Nat) : Int))] ⟨V, V, V, V, trivial⟩ ?_)
 refine B9 (ι := Value × World) (fun _ => [(0, ptr p), (2, ptr w.heap.size), (3, ptr w1.heap.size)]) (fun j w' => w' = j.2 ∧ ∃ q', MQ n0 p full w1.heap.size 36 [1, 1, 1, 1, 1, 1, 1, 1, 1, 1] (SN.fields .sheet) 7 w1 q.dn 7 ((((((([] ++ [Cp]) ++ [[cv158]]) ++ [[cv162]]) ++ [[cv166]]) ++ [[cv170]]) ++ [[cv186]]) ++ [[j.1]]) ((((((((CN [1, 1, 1, 1, 1, 1, 1, 1, 1, 1] zsheet).set 0 Cp).set 1 [cv158]).set 2 [cv162]).set 3 [cv166]).set 4 [cv170]).set 5 [cv186]).set 6 [j.1]) q' w') ?_ ?_
 · refine Af (Aa (Ah V V (Ae ?_)))
   refine A1 (AW (ι := Nat × Value × World) (fun j => [(0, ptr p), (2, ptr w.heap.size), (3, ptr w1.heap.size), (4, .int .i64 ((n189 : Nat) : Int)), (11, .int .i64 ((j.1 : Nat) : Int))]) (fun j w' => w' = j.2.2 ∧ j.1 ≤ n189 ∧ ∃ l q', l.length = j.1 ∧ LQ n0 p full (fun b => b = p ∨ b = w1.heap.size) (.st .accum) 151 w188 q187 ql189 n189 l j.2.1 q' w' ∧ Blk w' w1.heap.size ((((((((CN [1, 1, 1, 1, 1, 1, 1, 1, 1, 1] zsheet).set 0 Cp).set 1 [cv158]).set 2 [cv162]).set 3 [cv166]).set 4 [cv170]).set 5 [cv186]).set 6 [j.2.1]).flatten 36) (fun j => n189 - j.1)
    (0, .slice none 0 0, wl189) ⟨V, V, V, V, V, trivial⟩ ⟨rfl, Nat.zero_le _, [], ql189, rfl, L0, B0⟩ ?_)
   clear L0 g1 B0 fl
   rintro ⟨i189, v189, _⟩ wi189 ⟨rfl, hi189, l189, qi189, hl189, L189, B189⟩
   simp only at hi189 hl189 L189 B189 ⊢
   refine Af (Af (Aa (Ac V V (Ac V V (Al V V (Bh (c := decide (i189 < n189)) (decide_eq_decide.2 Int.ofNat_lt.symm)) V (Ac V V ?_))))))
   obtain ⟨vb, vt, mm⟩ := L189.st.mem
   by_cases hin : i189 < n189
   rotate_left
   · rw [decide_eq_false hin]
     refine AY _ _ _ V (Ae (A9 V (AQ fun a ha => Aq (Aq (A3 (Ad ?_))))))
     exact ⟨(v189, wi189), ha.weak ⟨V, V, V, trivial⟩, rfl, qi189, M.list L189 hlen189 (.inr (by omega)) V (by decide) 6 B189 V⟩
   rw [decide_eq_true hin]
   refine Ag (j := 3) V V V (Ac V V (Ag (j := 3) V V V (As V V (Ag (j := 3) V V V (Ab V (BV _ _ _) V (Ag (j := 3) V V V (Ai V (A4 Ee (mm.blk.get V)) V (Ag (j := 3) V V V (Bt V V (AI V V V (Ae ?_)))))))))))
   cases hqb189 : qi189.bad with
   | true =>
    refine A9 V (AQ fun a ha => Aq (Aq (A3 (Ad ?_))))
    exact ⟨(v189, wi189), ha.weak ⟨V, V, V, trivial⟩, rfl, qi189, M.list L189 hlen189 (.inl hqb189) V (by decide) 6 B189 V⟩
   | false =>
   refine Ax V (A_ fun a ha => Ad ?_)
   refine A8 ha (Af (A1 (Hi CE ?_)))
   replace L189 := L189.turn (Fr.drewn 1)
   replace B189 := kb (Fr.drewn 1) B189
   generalize wi189.drewN 1 = wd189 at L189 B189 ⊢
   refine Ct (i := 0) V (by decide +kernel) (by repeat (first | with_reducible exact Bo | with_reducible apply Bl | with_reducible apply Br)) V (fun w => Dm w _ _) V (C7 (i := 2) V (by decide +kernel) (by repeat (first | with_reducible exact Bo | with_reducible apply Bl | with_reducible apply Br)) V V ?_)
   refine Gt (R := QGood n0 p full (.st .accum) qi189 wd189) (Lf := #[true, true, true, true, true, false, false, false]) (fun vb => [(166, vb), (163, v189), (0, ptr p), (2, ptr w.heap.size), (3, ptr w1.heap.size), (4, .int .i64 ((n189 : Nat) : Int)), (11, .int .i64 ((i189 : Nat) : Int))]) V V V (by decide +kernel) (by decide +kernel) (by decide +kernel) (by decide +kernel) (by decide +kernel) (by decide +kernel) V V V V V V V (fun _ => rfl) (fun _ _ => rfl) V (fun _ => rfl) (fun _ _ => rfl) (fun _ => rfl) (fun _ _ => rfl) call84 ((St hX) _ _ L189.st (L189.nest.trans (M.nest.trans hk1)))
    (A4 GW (hcell189 B189)) (fun x w1 g => ?_) (fun x w1 g => ?_) (fun _ _ => ⟨V, V, V, V, V, V, V, trivial⟩) (fun _ _ => ⟨V, V, V, V, V, V, V, trivial⟩) (fun _ _ => ⟨V, V, V, V, V, V, V, trivial⟩)
   · obtain ⟨t, q', cs, rfl, hrep, hst, f', _⟩ := g
     exact A4 GW (hcell189 ((f'.blk _ B189.lt M.ne).trans B189))
   obtain ⟨vb2, w4, v', w5, t, q', hr1, hr2, L', hkp⟩ := L189.step (ty := 31) underlying31 hei189 hby189 (by decide) (by decide) hqb189 (by omega) g
   obtain ⟨hk1, hk2⟩ := hkp _ M.blk.lt M.ne
   obtain ⟨w6, hst, L', B'⟩ := L'.put (v' := v') (hk2.trans B189) M.len rfl (.inr rfl) M.ne (Nat.le_trans M.base M.c0) GW
   refine ⟨vb2, w4, hr1, A4 GW (hcell189 (hk1.trans B189)), AX (i := 5) (by decide +kernel) V (AU V V hr2 V (Ba (AX (i := 6) (by decide +kernel) V (Ab V (Dm _ _ _) V (Ba (AX (i := 7) (by decide +kernel) V (An V V hst (Ba (Cv (by decide +kernel) (fun a ha => Az (Ad ?_)))))))))))⟩
   refine A8 ha (Aa (Ac V V (Al V V V V (Ah V V (A2 fun a ha => Ad ?_)))))
   exact ⟨(i189 + 1, v', w6), ha.weak ⟨rfl, rfl, rfl, rfl, congrArg some (AS (by have := L189.lim; omega)), trivial⟩, ⟨rfl, by show i189 + 1 ≤ n189; omega, l189 ++ [t], q', by simp [hl189], L', B'⟩, by show n189 - (i189 + 1) < n189 - i189; omega⟩
 rintro ⟨cv190, _⟩ w192 ⟨rfl, q191, M⟩
 simp only at M ⊢
 refine Af (Aa (Ac V V (Aj call33 V V (JX M.st) ?_ Be)))
 intro v1 wl193 g1
 obtain ⟨n193, ql193, rfl, L0, hlen193, fl⟩ := LQ.start (X := fun b => b = p ∨ b = w1.heap.size) (e := .st .mode) (tid := 84) M.st (.inl rfl) (fun b hb => hb.elim (fun e => e ▸ Nat.lt_of_lt_of_le M.st.lp M.st.ln) (fun e => e ▸ M.blk.lt)) g1
 have B0 : Blk wl193 w1.heap.size (((((((((CN [1, 1, 1, 1, 1, 1, 1, 1, 1, 1] zsheet).set 0 Cp).set 1 [cv158]).set 2 [cv162]).set 3 [cv166]).set 4 [cv170]).set 5 [cv186]).set 6 [cv190]).set 7 [.slice none 0 0]).flatten 36 := (fl.blk _ M.blk.lt M.ne).trans M.blk
 have hcell193 : ∀ {w' : World} {v : Value}, Blk w' w1.heap.size (((((((((CN [1, 1, 1, 1, 1, 1, 1, 1, 1, 1] zsheet).set 0 Cp).set 1 [cv158]).set 2 [cv162]).set 3 [cv166]).set 4 [cv170]).set 5 [cv186]).set 6 [cv190]).set 7 [v]).flatten 36 → w'.cell? ⟨w1.heap.size, 7, none⟩ = some v := fun {w' v} b => b.get (CS (((((((((CN [1, 1, 1, 1, 1, 1, 1, 1, 1, 1] zsheet).set 0 Cp).set 1 [cv158]).set 2 [cv162]).set 3 [cv166]).set 4 [cv170]).set 5 [cv186]).set 6 [cv190]).set 7 [v]) [1, 1, 1, 1, 1, 1, 1, 1, 1, 1] 7 v (C1 ((((((((CN [1, 1, 1, 1, 1, 1, 1, 1, 1, 1] zsheet).set 0 Cp).set 1 [cv158]).set 2 [cv162]).set 3 [cv166]).set 4 [cv170]).set 5 [cv186]).set 6 [cv190]) [1, 1, 1, 1, 1, 1, 1, 1, 1, 1] 7 [v] M.len rfl).2.1 rfl)
 obtain ⟨bytes, hei193, hby193⟩ : ∃ bytes, Ck prog 84 (Ty.size (.st .mode)) bytes ∧ bytes ≤ 4096 := B7 (by kernel_rfl)
 refine Ah V V (Ar [(0, ptr p), (2, ptr w.heap.size), (3, ptr w1.heap.size), (4, .int .i64 ((n193 : Nat) : Int))] ⟨V, V, V, V, trivial⟩ ?_)
 refine B9 (ι := Value × World) (fun _ => [(0, ptr p), (2, ptr w.heap.size), (3, ptr w1.heap.size)]) (fun j w' => w' = j.2 ∧ ∃ q', MQ n0 p full w1.heap.size 36 [1, 1, 1, 1, 1, 1, 1, 1, 1, 1] (SN.fields .sheet) 7 w1 q.dn 8 (((((((([] ++ [Cp]) ++ [[cv158]]) ++ [[cv162]]) ++ [[cv166]]) ++ [[cv170]]) ++ [[cv186]]) ++ [[cv190]]) ++ [[j.1]]) (((((((((CN [1, 1, 1, 1, 1, 1, 1, 1, 1, 1] zsheet).set 0 Cp).set 1 [cv158]).set 2 [cv162]).set 3 [cv166]).set 4 [cv170]).set 5 [cv186]).set 6 [cv190]).set 7 [j.1]) q' w') ?_ ?_
 · refine Af (Aa (Ah V V (Ae ?_)))
   refine A1 (AW (ι := Nat × Value × World) (fun j => [(0, ptr p), (2, ptr w.heap.size), (3, ptr w1.heap.size), (4, .int .i64 ((n193 : Nat) : Int)), (12, .int .i64 ((j.1 : Nat) : Int))]) (fun j w' => w' = j.2.2 ∧ j.1 ≤ n193 ∧ ∃ l q', l.length = j.1 ∧ LQ n0 p full (fun b => b = p ∨ b = w1.heap.size) (.st .mode) 84 w192 q191 ql193 n193 l j.2.1 q' w' ∧ Blk w' w1.heap.size (((((((((CN [1, 1, 1, 1, 1, 1, 1, 1, 1, 1] zsheet).set 0 Cp).set 1 [cv158]).set 2 [cv162]).set 3 [cv166]).set 4 [cv170]).set 5 [cv186]).set 6 [cv190]).set 7 [j.2.1]).flatten 36) (fun j => n193 - j.1)
    (0, .slice none 0 0, wl193) ⟨V, V, V, V, V, trivial⟩ ⟨rfl, Nat.zero_le _, [], ql193, rfl, L0, B0⟩ ?_)
   clear L0 g1 B0 fl
   rintro ⟨i193, v193, _⟩ wi193 ⟨rfl, hi193, l193, qi193, hl193, L193, B193⟩
   simp only at hi193 hl193 L193 B193 ⊢
   refine Af (Af (Aa (Ac V V (Ac V V (Al V V (Bh (c := decide (i193 < n193)) (decide_eq_decide.2 Int.ofNat_lt.symm)) V (Ac V V ?_))))))
   obtain ⟨vb, vt, mm⟩ := L193.st.mem
   by_cases hin : i193 < n193
   rotate_left
   · rw [decide_eq_false hin]
     refine AY _ _ _ V (Ae (A9 V (AQ fun a ha => Aq (Aq (A3 (Ad ?_))))))
     exact ⟨(v193, wi193), ha.weak ⟨V, V, V, trivial⟩, rfl, qi193, M.list L193 hlen193 (.inr (by omega)) V (by decide) 7 B193 V⟩
   rw [decide_eq_true hin]
   refine Ag (j := 3) V V V (Ac V V (Ag (j := 3) V V V (As V V (Ag (j := 3) V V V (Ab V (BV _ _ _) V (Ag (j := 3) V V V (Ai V (A4 Ee (mm.blk.get V)) V (Ag (j := 3) V V V (Bt V V (AI V V V (Ae ?_)))))))))))
   cases hqb193 : qi193.bad with
   | true =>
    refine A9 V (AQ fun a ha => Aq (Aq (A3 (Ad ?_))))
    exact ⟨(v193, wi193), ha.weak ⟨V, V, V, trivial⟩, rfl, qi193, M.list L193 hlen193 (.inl hqb193) V (by decide) 7 B193 V⟩
   | false =>
   refine Ax V (A_ fun a ha => Ad ?_)
   obtain ⟨Z193, hz193, hzl193⟩ : ∃ Z : List Value, (∀ w, (zeroValue 84).run prog w = .ok (.agg Z.toArray) w) ∧ Z.length = Cy [1, 1, 1, 1, 1, 1] := ⟨_, zeroValue84, rfl⟩
   refine A8 ha (Af (A1 (Af (Aa (AO (z := .agg Z193.toArray) (hz193 _) V (Ar [(0, ptr p), (2, ptr w.heap.size), (3, ptr w1.heap.size), (4, .int .i64 ((n193 : Nat) : Int)), (12, .int .i64 ((i193 : Nat) : Int)), (13, ptr wi193.heap.size)] ⟨V, V, V, V, V, V, trivial⟩ ?_))))))
   have N193 := MQ.new (tid := 84) (sz := [1, 1, 1, 1, 1, 1]) (all := SN.fields .mode) (R := IR .mode - 1) (Z := Z193) L193.st hzl193
   show W _ _ _ _ _ _ (wi193.alloc (.cells (Z193 : List Value).toArray 84))
   generalize wi193.alloc (.cells (Z193 : List Value).toArray 84) = ws193 at N193 ⊢
   refine Af (Aa (Ac V V (Aj call77 V V (Fe _ _ N193.st (N193.nest.trans (L193.nest.trans (M.nest.trans hk1)))) ?_ Be)))
   intro _ w196 g
   obtain ⟨Q7, q195, rfl, N193, H⟩ := N193.read rfl (by decide) g
   obtain ⟨w197, hst, N193⟩ := N193.store (off := 0) 0 H Cc rfl rfl
   refine Ab V (JO _ _ _) V (An V V hst (Ar [(0, ptr p), (2, ptr w.heap.size), (3, ptr w1.heap.size), (4, .int .i64 ((n193 : Nat) : Int)), (12, .int .i64 ((i193 : Nat) : Int)), (13, ptr wi193.heap.size)] ⟨V, V, V, V, V, V, trivial⟩ ?_))
   refine Af (Aa (Ac V V (Aj call77 V V (Fe _ _ N193.st (N193.nest.trans (L193.nest.trans (M.nest.trans hk1)))) ?_ Be)))
   intro _ w200 g
   obtain ⟨PI, q199, rfl, N193, H⟩ := N193.read rfl (by decide) g
   obtain ⟨w201, hst, N193⟩ := N193.store (off := 1) 1 H Cc rfl rfl
   refine Ab V (IQ _ _ _) V (An V V hst (Ar [(0, ptr p), (2, ptr w.heap.size), (3, ptr w1.heap.size), (4, .int .i64 ((n193 : Nat) : Int)), (12, .int .i64 ((i193 : Nat) : Int)), (13, ptr wi193.heap.size)] ⟨V, V, V, V, V, V, trivial⟩ ?_))
   refine Af (Aa (Ac V V (Aj call85 V V (IS _ _ N193.st (N193.nest.trans (L193.nest.trans (M.nest.trans hk1)))) ?_ Be)))
   intro _ w204 g
   obtain ⟨c202, q203, rfl, N193, H⟩ := N193.read rfl (by decide) g
   obtain ⟨w205, hst, N193⟩ := N193.store (off := 2) 2 H Dp rfl rfl
   refine Ab V (JB _ _ _) V (An V V hst (Ar [(0, ptr p), (2, ptr w.heap.size), (3, ptr w1.heap.size), (4, .int .i64 ((n193 : Nat) : Int)), (12, .int .i64 ((i193 : Nat) : Int)), (13, ptr wi193.heap.size)] ⟨V, V, V, V, V, V, trivial⟩ ?_))
   refine Af (Aa (Ac V V (Aj call85 V V (IS _ _ N193.st (N193.nest.trans (L193.nest.trans (M.nest.trans hk1)))) ?_ Be)))
   intro _ w208 g
   obtain ⟨Jl, q207, rfl, N193, H⟩ := N193.read rfl (by decide) g
   obtain ⟨w209, hst, N193⟩ := N193.store (off := 3) 3 H Dp rfl rfl
   refine Ab V (J_ _ _ _) V (An V V hst (Ar [(0, ptr p), (2, ptr w.heap.size), (3, ptr w1.heap.size), (4, .int .i64 ((n193 : Nat) : Int)), (12, .int .i64 ((i193 : Nat) : Int)), (13, ptr wi193.heap.size)] ⟨V, V, V, V, V, V, trivial⟩ ?_))
   refine Af (Aa (Ac V V (Aj call77 V V (Fe _ _ N193.st (N193.nest.trans (L193.nest.trans (M.nest.trans hk1)))) ?_ Be)))
   intro _ w212 g
   obtain ⟨O_, q211, rfl, N193, H⟩ := N193.read rfl (by decide) g
   obtain ⟨w213, hst, N193⟩ := N193.store (off := 4) 4 H Cc rfl rfl
   refine Ab V (JF _ _ _) V (An V V hst (Ar [(0, ptr p), (2, ptr w.heap.size), (3, ptr w1.heap.size), (4, .int .i64 ((n193 : Nat) : Int)), (12, .int .i64 ((i193 : Nat) : Int)), (13, ptr wi193.heap.size)] ⟨V, V, V, V, V, V, trivial⟩ ?_))
   refine Af (Aa (Ac V V (Aj call86 V V (J4 _ _ N193.st (N193.nest.trans (L193.nest.trans (M.nest.trans hk1)))) ?_ Be)))
   intro _ w216 g
   obtain ⟨Qe, q215, rfl, N193, H⟩ := N193.read rfl (by decide) g
   obtain ⟨w217, hst, N193⟩ := N193.store (off := 5) 5 H Cj rfl rfl
   refine Ab V (JC _ _ _) V (An V V hst (Ar [(0, ptr p), (2, ptr w.heap.size), (3, ptr w1.heap.size), (4, .int .i64 ((n193 : Nat) : Int)), (12, .int .i64 ((i193 : Nat) : Int)), (13, ptr wi193.heap.size)] ⟨V, V, V, V, V, V, trivial⟩ ?_))
   obtain ⟨hl6, _, _⟩ := N193.val rfl
   have g := N193.good (sn := .mode) rfl rfl
   obtain ⟨vb2, w4, v', w5, t, q', hr1, hr2, L', hkp⟩ := L193.step (ty := 32) underlying32 hei193 hby193 (by decide) (by decide) hqb193 (by omega) g
   obtain ⟨hk1, hk2⟩ := hkp _ M.blk.lt M.ne
   obtain ⟨w6, hst, L', B'⟩ := L'.put (v' := v') (hk2.trans B193) M.len rfl (.inr rfl) M.ne (Nat.le_trans M.base M.c0) GV
   have BN := (N193.frame.blk _ B193.lt M.ne).trans B193
   refine Aa (Ab V (CO _ _ _) V (Ai V (A4 GV (hcell193 BN)) V (Ai V (Bg Gz hl6 N193.blk.all) V (A7 V hr1 V (AU V V hr2 V (Ab V (CO _ _ _) V (An V V hst (A2 fun a ha => Az (Ad ?_)))))))))
   refine A8 ha (Aa (Ac V V (Al V V V V (Ah V V (A2 fun a ha => Ad ?_)))))
   exact ⟨(i193 + 1, v', w6), ha.weak ⟨rfl, rfl, rfl, rfl, congrArg some (AS (by have := L193.lim; omega)), trivial⟩, ⟨rfl, by show i193 + 1 ≤ n193; omega, l193 ++ [t], q', by simp [hl193], L', B'⟩, by show n193 - (i193 + 1) < n193 - i193; omega⟩
 rintro ⟨cv218, _⟩ w220 ⟨rfl, q219, M⟩
 simp only at M ⊢
 refine Af (Aa (Ac V V (Aj call33 V V (JX M.st) ?_ Be)))
 intro v1 wl221 g1
 obtain ⟨n221, ql221, rfl, L0, hlen221, fl⟩ := LQ.start (X := fun b => b = p ∨ b = w1.heap.size) (e := .st .output) (tid := 157) M.st (.inl rfl) (fun b hb => hb.elim (fun e => e ▸ Nat.lt_of_lt_of_le M.st.lp M.st.ln) (fun e => e ▸ M.blk.lt)) g1
 have B0 : Blk wl221 w1.heap.size ((((((((((CN [1, 1, 1, 1, 1, 1, 1, 1, 1, 1] zsheet).set 0 Cp).set 1 [cv158]).set 2 [cv162]).set 3 [cv166]).set 4 [cv170]).set 5 [cv186]).set 6 [cv190]).set 7 [cv218]).set 8 [.slice none 0 0]).flatten 36 := (fl.blk _ M.blk.lt M.ne).trans M.blk
 have hcell221 : ∀ {w' : World} {v : Value}, Blk w' w1.heap.size ((((((((((CN [1, 1, 1, 1, 1, 1, 1, 1, 1, 1] zsheet).set 0 Cp).set 1 [cv158]).set 2 [cv162]).set 3 [cv166]).set 4 [cv170]).set 5 [cv186]).set 6 [cv190]).set 7 [cv218]).set 8 [v]).flatten 36 → w'.cell? ⟨w1.heap.size, 8, none⟩ = some v := fun {w' v} b => b.get (CS ((((((((((CN [1, 1, 1, 1, 1, 1, 1, 1, 1, 1] zsheet).set 0 Cp).set 1 [cv158]).set 2 [cv162]).set 3 [cv166]).set 4 [cv170]).set 5 [cv186]).set 6 [cv190]).set 7 [cv218]).set 8 [v]) [1, 1, 1, 1, 1, 1, 1, 1, 1, 1] 8 v (C1 (((((((((CN [1, 1, 1, 1, 1, 1, 1, 1, 1, 1] zsheet).set 0 Cp).set 1 [cv158]).set 2 [cv162]).set 3 [cv166]).set 4 [cv170]).set 5 [cv186]).set 6 [cv190]).set 7 [cv218]) [1, 1, 1, 1, 1, 1, 1, 1, 1, 1] 8 [v] M.len rfl).2.1 rfl)
 obtain ⟨bytes, hei221, hby221⟩ : ∃ bytes, Ck prog 157 (Ty.size (.st .output)) bytes ∧ bytes ≤ 4096 := B7 (by kernel_rfl)
 refine Ah V V (Ar [(0, ptr p), (2, ptr w.heap.size), (3, ptr w1.heap.size), (4, .int .i64 ((n221 : Nat) : Int))] ⟨V, V, V, V, trivial⟩ ?_)
 refine B9 (ι := Value × World) (fun _ => [(0, ptr p), (2, ptr w.heap.size), (3, ptr w1.heap.size)]) (fun j w' => w' = j.2 ∧ ∃ q', MQ n0 p full w1.heap.size 36 [1, 1, 1, 1, 1, 1, 1, 1, 1, 1] (SN.fields .sheet) 7 w1 q.dn 9 ((((((((([] ++ [Cp]) ++ [[cv158]]) ++ [[cv162]]) ++ [[cv166]]) ++ [[cv170]]) ++ [[cv186]]) ++ [[cv190]]) ++ [[cv218]]) ++ [[j.1]]) ((((((((((CN [1, 1, 1, 1, 1, 1, 1, 1, 1, 1] zsheet).set 0 Cp).set 1 [cv158]).set 2 [cv162]).set 3 [cv166]).set 4 [cv170]).set 5 [cv186]).set 6 [cv190]).set 7 [cv218]).set 8 [j.1]) q' w') ?_ ?_
 · refine Af (Aa (Ah V V (Ae ?_)))
   refine A1 (AW (ι := Nat × Value × World) (fun j => [(0, ptr p), (2, ptr w.heap.size), (3, ptr w1.heap.size), (4, .int .i64 ((n221 : Nat) : Int)), (14, .int .i64 ((j.1 : Nat) : Int))]) (fun j w' => w' = j.2.2 ∧ j.1 ≤ n221 ∧ ∃ l q', l.length = j.1 ∧ LQ n0 p full (fun b => b = p ∨ b = w1.heap.size) (.st .output) 157 w220 q219 ql221 n221 l j.2.1 q' w' ∧ Blk w' w1.heap.size ((((((((((CN [1, 1, 1, 1, 1, 1, 1, 1, 1, 1] zsheet).set 0 Cp).set 1 [cv158]).set 2 [cv162]).set 3 [cv166]).set 4 [cv170]).set 5 [cv186]).set 6 [cv190]).set 7 [cv218]).set 8 [j.2.1]).flatten 36) (fun j => n221 - j.1)
    (0, .slice none 0 0, wl221) ⟨V, V, V, V, V, trivial⟩ ⟨rfl, Nat.zero_le _, [], ql221, rfl, L0, B0⟩ ?_)
   clear L0 g1 B0 fl
   rintro ⟨i221, v221, _⟩ wi221 ⟨rfl, hi221, l221, qi221, hl221, L221, B221⟩
   simp only at hi221 hl221 L221 B221 ⊢
   refine Af (Af (Aa (Ac V V (Ac V V (Al V V (Bh (c := decide (i221 < n221)) (decide_eq_decide.2 Int.ofNat_lt.symm)) V (Ac V V ?_))))))
   obtain ⟨vb, vt, mm⟩ := L221.st.mem
   by_cases hin : i221 < n221
   rotate_left
   · rw [decide_eq_false hin]
     refine AY _ _ _ V (Ae (A9 V (AQ fun a ha => Aq (Aq (A3 (Ad ?_))))))
     exact ⟨(v221, wi221), ha.weak ⟨V, V, V, trivial⟩, rfl, qi221, M.list L221 hlen221 (.inr (by omega)) V (by decide) 8 B221 V⟩
   rw [decide_eq_true hin]
   refine Ag (j := 3) V V V (Ac V V (Ag (j := 3) V V V (As V V (Ag (j := 3) V V V (Ab V (BV _ _ _) V (Ag (j := 3) V V V (Ai V (A4 Ee (mm.blk.get V)) V (Ag (j := 3) V V V (Bt V V (AI V V V (Ae ?_)))))))))))
   cases hqb221 : qi221.bad with
   | true =>
    refine A9 V (AQ fun a ha => Aq (Aq (A3 (Ad ?_))))
    exact ⟨(v221, wi221), ha.weak ⟨V, V, V, trivial⟩, rfl, qi221, M.list L221 hlen221 (.inl hqb221) V (by decide) 8 B221 V⟩
   | false =>
   refine Ax V (A_ fun a ha => Ad ?_)
   obtain ⟨Z221, hz221, hzl221⟩ : ∃ Z : List Value, (∀ w, (zeroValue 157).run prog w = .ok (.agg Z.toArray) w) ∧ Z.length = Cy [1, 1, 1, 1, 1] := ⟨_, zeroValue157, rfl⟩
   refine A8 ha (Af (A1 (Af (Aa (AO (z := .agg Z221.toArray) (hz221 _) V (Ar [(0, ptr p), (2, ptr w.heap.size), (3, ptr w1.heap.size), (4, .int .i64 ((n221 : Nat) : Int)), (14, .int .i64 ((i221 : Nat) : Int)), (15, ptr wi221.heap.size)] ⟨V, V, V, V, V, V, trivial⟩ ?_))))))
   have N221 := MQ.new (tid := 157) (sz := [1, 1, 1, 1, 1]) (all := SN.fields .output) (R := IR .output - 1) (Z := Z221) L221.st hzl221
   show W _ _ _ _ _ _ (wi221.alloc (.cells (Z221 : List Value).toArray 157))
   generalize wi221.alloc (.cells (Z221 : List Value).toArray 157) = ws221 at N221 ⊢
   refine Af (Aa (Ac V V (Aj call77 V V (Fe _ _ N221.st (N221.nest.trans (L221.nest.trans (M.nest.trans hk1)))) ?_ Be)))
   intro _ w224 g
   obtain ⟨c222, q223, rfl, N221, H⟩ := N221.read rfl (by decide) g
   obtain ⟨w225, hst, N221⟩ := N221.store (off := 0) 0 H Cc rfl rfl
   refine Ab V (Fq _ _ _) V (An V V hst (Ar [(0, ptr p), (2, ptr w.heap.size), (3, ptr w1.heap.size), (4, .int .i64 ((n221 : Nat) : Int)), (14, .int .i64 ((i221 : Nat) : Int)), (15, ptr wi221.heap.size)] ⟨V, V, V, V, V, V, trivial⟩ ?_))
   refine Af (Aa (Ac V V (Aj call77 V V (Fe _ _ N221.st (N221.nest.trans (L221.nest.trans (M.nest.trans hk1)))) ?_ Be)))
   intro _ w228 g
   obtain ⟨c226, q227, rfl, N221, H⟩ := N221.read rfl (by decide) g
   obtain ⟨w229, hst, N221⟩ := N221.store (off := 1) 1 H Cc rfl rfl
   refine Ab V (FK _ _ _) V (An V V hst (Ar [(0, ptr p), (2, ptr w.heap.size), (3, ptr w1.heap.size), (4, .int .i64 ((n221 : Nat) : Int)), (14, .int .i64 ((i221 : Nat) : Int)), (15, ptr wi221.heap.size)] ⟨V, V, V, V, V, V, trivial⟩ ?_))
   refine Af (Aa (Ac V V (Aj call85 V V (IS _ _ N221.st (N221.nest.trans (L221.nest.trans (M.nest.trans hk1)))) ?_ Be)))
   intro _ w232 g
   obtain ⟨c230, q231, rfl, N221, H⟩ := N221.read rfl (by decide) g
   obtain ⟨w233, hst, N221⟩ := N221.store (off := 2) 2 H Dp rfl rfl
   refine Ab V (Gj _ _ _) V (An V V hst (Ar [(0, ptr p), (2, ptr w.heap.size), (3, ptr w1.heap.size), (4, .int .i64 ((n221 : Nat) : Int)), (14, .int .i64 ((i221 : Nat) : Int)), (15, ptr wi221.heap.size)] ⟨V, V, V, V, V, V, trivial⟩ ?_))
   refine Af (Aa (Ac V V (Aj call85 V V (IS _ _ N221.st (N221.nest.trans (L221.nest.trans (M.nest.trans hk1)))) ?_ Be)))
   intro _ w236 g
   obtain ⟨c234, q235, rfl, N221, H⟩ := N221.read rfl (by decide) g
   obtain ⟨w237, hst, N221⟩ := N221.store (off := 3) 3 H Dp rfl rfl
   refine Ab V (Gd _ _ _) V (An V V hst (Ar [(0, ptr p), (2, ptr w.heap.size), (3, ptr w1.heap.size), (4, .int .i64 ((n221 : Nat) : Int)), (14, .int .i64 ((i221 : Nat) : Int)), (15, ptr wi221.heap.size)] ⟨V, V, V, V, V, V, trivial⟩ ?_))
   refine Af (Aa (Ac V V (Aj call87 V V (QR _ _ N221.st (N221.nest.trans (L221.nest.trans (M.nest.trans hk1)))) ?_ Be)))
   intro _ w240 g
   obtain ⟨c238, q239, rfl, N221, H⟩ := N221.read rfl (by decide) g
   obtain ⟨w241, hst, N221⟩ := N221.store (off := 4) 4 H D_ rfl rfl
   refine Ab V (FD _ _ _) V (An V V hst (Ar [(0, ptr p), (2, ptr w.heap.size), (3, ptr w1.heap.size), (4, .int .i64 ((n221 : Nat) : Int)), (14, .int .i64 ((i221 : Nat) : Int)), (15, ptr wi221.heap.size)] ⟨V, V, V, V, V, V, trivial⟩ ?_))
   obtain ⟨hl6, _, _⟩ := N221.val rfl
   have g := N221.good (sn := .output) rfl rfl
   obtain ⟨vb2, w4, v', w5, t, q', hr1, hr2, L', hkp⟩ := L221.step (ty := 33) underlying33 hei221 hby221 (by decide) (by decide) hqb221 (by omega) g
   obtain ⟨hk1, hk2⟩ := hkp _ M.blk.lt M.ne
   obtain ⟨w6, hst, L', B'⟩ := L'.put (v' := v') (hk2.trans B221) M.len rfl (.inr rfl) M.ne (Nat.le_trans M.base M.c0) Jm
   have BN := (N221.frame.blk _ B221.lt M.ne).trans B221
   refine Aa (Ab V (D8 _ _ _) V (Ai V (A4 Jm (hcell221 BN)) V (Ai V (Bg Dw hl6 N221.blk.all) V (A7 V hr1 V (AU V V hr2 V (Ab V (D8 _ _ _) V (An V V hst (A2 fun a ha => Az (Ad ?_)))))))))
   refine A8 ha (Aa (Ac V V (Al V V V V (Ah V V (A2 fun a ha => Ad ?_)))))
   exact ⟨(i221 + 1, v', w6), ha.weak ⟨rfl, rfl, rfl, rfl, congrArg some (AS (by have := L221.lim; omega)), trivial⟩, ⟨rfl, by show i221 + 1 ≤ n221; omega, l221 ++ [t], q', by simp [hl221], L', B'⟩, by show n221 - (i221 + 1) < n221 - i221; omega⟩
 rintro ⟨cv242, _⟩ w244 ⟨rfl, q243, M⟩
 simp only at M ⊢
 refine Af (Aa (Ac V V (Aj call33 V V (JX M.st) ?_ Be)))
 intro v1 wl245 g1
 obtain ⟨n245, ql245, rfl, L0, hlen245, fl⟩ := LQ.start (X := fun b => b = p ∨ b = w1.heap.size) (e := .st .charMap) (tid := 162) M.st (.inl rfl) (fun b hb => hb.elim (fun e => e ▸ Nat.lt_of_lt_of_le M.st.lp M.st.ln) (fun e => e ▸ M.blk.lt)) g1
 have B0 : Blk wl245 w1.heap.size (((((((((((CN [1, 1, 1, 1, 1, 1, 1, 1, 1, 1] zsheet).set 0 Cp).set 1 [cv158]).set 2 [cv162]).set 3 [cv166]).set 4 [cv170]).set 5 [cv186]).set 6 [cv190]).set 7 [cv218]).set 8 [cv242]).set 9 [.slice none 0 0]).flatten 36 := (fl.blk _ M.blk.lt M.ne).trans M.blk
 have hcell245 : ∀ {w' : World} {v : Value}, Blk w' w1.heap.size (((((((((((CN [1, 1, 1, 1, 1, 1, 1, 1, 1, 1] zsheet).set 0 Cp).set 1 [cv158]).set 2 [cv162]).set 3 [cv166]).set 4 [cv170]).set 5 [cv186]).set 6 [cv190]).set 7 [cv218]).set 8 [cv242]).set 9 [v]).flatten 36 → w'.cell? ⟨w1.heap.size, 9, none⟩ = some v := fun {w' v} b => b.get (CS (((((((((((CN [1, 1, 1, 1, 1, 1, 1, 1, 1, 1] zsheet).set 0 Cp).set 1 [cv158]).set 2 [cv162]).set 3 [cv166]).set 4 [cv170]).set 5 [cv186]).set 6 [cv190]).set 7 [cv218]).set 8 [cv242]).set 9 [v]) [1, 1, 1, 1, 1, 1, 1, 1, 1, 1] 9 v (C1 ((((((((((CN [1, 1, 1, 1, 1, 1, 1, 1, 1, 1] zsheet).set 0 Cp).set 1 [cv158]).set 2 [cv162]).set 3 [cv166]).set 4 [cv170]).set 5 [cv186]).set 6 [cv190]).set 7 [cv218]).set 8 [cv242]) [1, 1, 1, 1, 1, 1, 1, 1, 1, 1] 9 [v] M.len rfl).2.1 rfl)
 obtain ⟨bytes, hei245, hby245⟩ : ∃ bytes, Ck prog 162 (Ty.size (.st .charMap)) bytes ∧ bytes ≤ 4096 := B7 (by kernel_rfl)
 refine Ah V V (Ar [(0, ptr p), (2, ptr w.heap.size), (3, ptr w1.heap.size), (4, .int .i64 ((n245 : Nat) : Int))] ⟨V, V, V, V, trivial⟩ ?_)
 refine B9 (ι := Value × World) (fun _ => [(0, ptr p), (2, ptr w.heap.size), (3, ptr w1.heap.size)]) (fun j w' => w' = j.2 ∧ ∃ q', MQ n0 p full w1.heap.size 36 [1, 1, 1, 1, 1, 1, 1, 1, 1, 1] (SN.fields .sheet) 7 w1 q.dn 10 (((((((((([] ++ [Cp]) ++ [[cv158]]) ++ [[cv162]]) ++ [[cv166]]) ++ [[cv170]]) ++ [[cv186]]) ++ [[cv190]]) ++ [[cv218]]) ++ [[cv242]]) ++ [[j.1]]) (((((((((((CN [1, 1, 1, 1, 1, 1, 1, 1, 1, 1] zsheet).set 0 Cp).set 1 [cv158]).set 2 [cv162]).set 3 [cv166]).set 4 [cv170]).set 5 [cv186]).set 6 [cv190]).set 7 [cv218]).set 8 [cv242]).set 9 [j.1]) q' w') ?_ ?_
 · refine Af (Aa (Ah V V (Ae ?_)))
   refine A1 (AW (ι := Nat × Value × World) (fun j => [(0, ptr p), (2, ptr w.heap.size), (3, ptr w1.heap.size), (4, .int .i64 ((n245 : Nat) : Int)), (16, .int .i64 ((j.1 : Nat) : Int))]) (fun j w' => w' = j.2.2 ∧ j.1 ≤ n245 ∧ ∃ l q', l.length = j.1 ∧ LQ n0 p full (fun b => b = p ∨ b = w1.heap.size) (.st .charMap) 162 w244 q243 ql245 n245 l j.2.1 q' w' ∧ Blk w' w1.heap.size (((((((((((CN [1, 1, 1, 1, 1, 1, 1, 1, 1, 1] zsheet).set 0 Cp).set 1 [cv158]).set 2 [cv162]).set 3 [cv166]).set 4 [cv170]).set 5 [cv186]).set 6 [cv190]).set 7 [cv218]).set 8 [cv242]).set 9 [j.2.1]).flatten 36) (fun j => n245 - j.1)
    (0, .slice none 0 0, wl245) ⟨V, V, V, V, V, trivial⟩ ⟨rfl, Nat.zero_le _, [], ql245, rfl, L0, B0⟩ ?_)
   clear L0 g1 B0 fl
   rintro ⟨i245, v245, _⟩ wi245 ⟨rfl, hi245, l245, qi245, hl245, L245, B245⟩
   simp only at hi245 hl245 L245 B245 ⊢
   refine Af (Af (Aa (Ac V V (Ac V V (Al V V (Bh (c := decide (i245 < n245)) (decide_eq_decide.2 Int.ofNat_lt.symm)) V (Ac V V ?_))))))
   obtain ⟨vb, vt, mm⟩ := L245.st.mem
   by_cases hin : i245 < n245
   rotate_left
   · rw [decide_eq_false hin]
     refine AY _ _ _ V (Ae (A9 V (AQ fun a ha => Aq (Aq (A3 (Ad ?_))))))
     exact ⟨(v245, wi245), ha.weak ⟨V, V, V, trivial⟩, rfl, qi245, M.list L245 hlen245 (.inr (by omega)) V (by decide) 9 B245 V⟩
   rw [decide_eq_true hin]
   refine Ag (j := 3) V V V (Ac V V (Ag (j := 3) V V V (As V V (Ag (j := 3) V V V (Ab V (BV _ _ _) V (Ag (j := 3) V V V (Ai V (A4 Ee (mm.blk.get V)) V (Ag (j := 3) V V V (Bt V V (AI V V V (Ae ?_)))))))))))
   cases hqb245 : qi245.bad with
   | true =>
    refine A9 V (AQ fun a ha => Aq (Aq (A3 (Ad ?_))))
    exact ⟨(v245, wi245), ha.weak ⟨V, V, V, trivial⟩, rfl, qi245, M.list L245 hlen245 (.inl hqb245) V (by decide) 9 B245 V⟩
   | false =>
   refine Ax V (A_ fun a ha => Ad ?_)
   refine A8 ha (Af (A1 (Af (Aa (AO (z := .agg [E0, Cz].toArray) (zeroValue162 _) V (Ar [(0, ptr p), (2, ptr w.heap.size), (3, ptr w1.heap.size), (4, .int .i64 ((n245 : Nat) : Int)), (16, .int .i64 ((i245 : Nat) : Int)), (17, ptr wi245.heap.size)] ⟨V, V, V, V, V, V, trivial⟩ ?_))))))
   have N245 := MQ.new (tid := 162) (sz := [1, 1]) (all := SN.fields .charMap) (R := IR .charMap - 1) (Z := [E0, Cz]) L245.st rfl
   show W _ _ _ _ _ _ (wi245.alloc (.cells ([E0, Cz] : List Value).toArray 162))
   generalize wi245.alloc (.cells ([E0, Cz] : List Value).toArray 162) = ws245 at N245 ⊢
   refine Af (Aa (Ac V V (Aj call77 V V (Fe _ _ N245.st (N245.nest.trans (L245.nest.trans (M.nest.trans hk1)))) ?_ Be)))
   intro _ w248 g
   obtain ⟨K0, q247, rfl, N245, H⟩ := N245.read rfl (by decide) g
   obtain ⟨w249, hst, N245⟩ := N245.store (off := 0) 0 H Cc rfl rfl
   refine Ab V (Fz _ _ _) V (An V V hst (Ar [(0, ptr p), (2, ptr w.heap.size), (3, ptr w1.heap.size), (4, .int .i64 ((n245 : Nat) : Int)), (16, .int .i64 ((i245 : Nat) : Int)), (17, ptr wi245.heap.size)] ⟨V, V, V, V, V, V, trivial⟩ ?_))
   refine Af (Aa (Ac V V (Aj call33 V V (JX N245.st) ?_ Be)))
   intro v1 wl250 g1
   obtain ⟨n250, ql250, rfl, L0, hlen250, fl⟩ := LQ.start (X := fun b => b = p ∨ b = wi245.heap.size) (e := .st .swap) (tid := 170) N245.st (.inl rfl) (fun b hb => hb.elim (fun e => e ▸ Nat.lt_of_lt_of_le N245.st.lp N245.st.ln) (fun e => e ▸ N245.blk.lt)) g1
   have B0 : Blk wl250 wi245.heap.size (((CN [1, 1] [E0, Cz]).set 0 K0).set 1 [.slice none 0 0]).flatten 162 := (fl.blk _ N245.blk.lt N245.ne).trans N245.blk
   have hcell250 : ∀ {w' : World} {v : Value}, Blk w' wi245.heap.size (((CN [1, 1] [E0, Cz]).set 0 K0).set 1 [v]).flatten 162 → w'.cell? ⟨wi245.heap.size, 1, none⟩ = some v := fun {w' v} b => b.get (CS (((CN [1, 1] [E0, Cz]).set 0 K0).set 1 [v]) [1, 1] 1 v (C1 ((CN [1, 1] [E0, Cz]).set 0 K0) [1, 1] 1 [v] N245.len rfl).2.1 rfl)
   obtain ⟨bytes, hei250, hby250⟩ : ∃ bytes, Ck prog 170 (Ty.size (.st .swap)) bytes ∧ bytes ≤ 4096 := B7 (by kernel_rfl)
   refine Ah V V (Ar [(0, ptr p), (2, ptr w.heap.size), (3, ptr w1.heap.size), (4, .int .i64 ((n245 : Nat) : Int)), (16, .int .i64 ((i245 : Nat) : Int)), (17, ptr wi245.heap.size), (18, .int .i64 ((n250 : Nat) : Int))] ⟨V, V, V, V, V, V, V, trivial⟩ ?_)
   refine B9 (ι := Value × World) (fun _ => [(0, ptr p), (2, ptr w.heap.size), (3, ptr w1.heap.size), (4, .int .i64 ((n245 : Nat) : Int)), (16, .int .i64 ((i245 : Nat) : Int)), (17, ptr wi245.heap.size)]) (fun j w' => w' = j.2 ∧ ∃ q', MQ n0 p full wi245.heap.size 162 [1, 1] (SN.fields .charMap) (IR .charMap - 1) wi245 qi245 2 (([] ++ [K0]) ++ [[j.1]]) (((CN [1, 1] [E0, Cz]).set 0 K0).set 1 [j.1]) q' w') ?_ ?_
   · refine Af (Aa (Ah V V (Ae ?_)))
     refine A1 (AW (ι := Nat × Value × World) (fun j => [(0, ptr p), (2, ptr w.heap.size), (3, ptr w1.heap.size), (4, .int .i64 ((n245 : Nat) : Int)), (16, .int .i64 ((i245 : Nat) : Int)), (17, ptr wi245.heap.size), (18, .int .i64 ((n250 : Nat) : Int)), (19, .int .i64 ((j.1 : Nat) : Int))]) (fun j w' => w' = j.2.2 ∧ j.1 ≤ n250 ∧ ∃ l q', l.length = j.1 ∧ LQ n0 p full (fun b => b = p ∨ b = wi245.heap.size) (.st .swap) 170 w249 q247 ql250 n250 l j.2.1 q' w' ∧ Blk w' wi245.heap.size (((CN [1, 1] [E0, Cz]).set 0 K0).set 1 [j.2.1]).flatten 162) (fun j => n250 - j.1)
      (0, .slice none 0 0, wl250) ⟨V, V, V, V, V, V, V, V, trivial⟩ ⟨rfl, Nat.zero_le _, [], ql250, rfl, L0, B0⟩ ?_)
     clear L0 g1 B0 fl
     rintro ⟨i250, v250, _⟩ wi250 ⟨rfl, hi250, l250, qi250, hl250, L250, B250⟩
     simp only at hi250 hl250 L250 B250 ⊢
     refine Af (Af (Aa (Ac V V (Ac V V (Al V V (Bh (c := decide (i250 < n250)) (decide_eq_decide.2 Int.ofNat_lt.symm)) V (Ac V V ?_))))))
     obtain ⟨vb, vt, mm⟩ := L250.st.mem
     by_cases hin : i250 < n250
     rotate_left
     · rw [decide_eq_false hin]
       refine AY _ _ _ V (Ae (A9 V (AQ fun a ha => Aq (Aq (A3 (Ad ?_))))))
       exact ⟨(v250, wi250), ha.weak ⟨V, V, V, V, V, V, trivial⟩, rfl, qi250, N245.list L250 hlen250 (.inr (by omega)) V (by decide) 1 B250 V⟩
     rw [decide_eq_true hin]
     refine Ag (j := 3) V V V (Ac V V (Ag (j := 3) V V V (As V V (Ag (j := 3) V V V (Ab V (BV _ _ _) V (Ag (j := 3) V V V (Ai V (A4 Ee (mm.blk.get V)) V (Ag (j := 3) V V V (Bt V V (AI V V V (Ae ?_)))))))))))
     cases hqb250 : qi250.bad with
     | true =>
      refine A9 V (AQ fun a ha => Aq (Aq (A3 (Ad ?_))))
      exact ⟨(v250, wi250), ha.weak ⟨V, V, V, V, V, V, trivial⟩, rfl, qi250, N245.list L250 hlen250 (.inl hqb250) V (by decide) 1 B250 V⟩
     | false =>
     refine Ax V (A_ fun a ha => Ad ?_)
     obtain ⟨Z250, hz250, hzl250⟩ : ∃ Z : List Value, (∀ w, (zeroValue 170).run prog w = .ok (.agg Z.toArray) w) ∧ Z.length = Cy [1, 1] := ⟨_, zeroValue170, rfl⟩
     refine A8 ha (Af (A1 (Af (Aa (AO (z := .agg Z250.toArray) (hz250 _) V (Ar [(0, ptr p), (2, ptr w.heap.size), (3, ptr w1.heap.size), (4, .int .i64 ((n245 : Nat) : Int)), (16, .int .i64 ((i245 : Nat) : Int)), (17, ptr wi245.heap.size), (18, .int .i64 ((n250 : Nat) : Int)), (19, .int .i64 ((i250 : Nat) : Int)), (20, ptr wi250.heap.size)] ⟨V, V, V, V, V, V, V, V, V, trivial⟩ ?_))))))
     have N250 := MQ.new (tid := 170) (sz := [1, 1]) (all := SN.fields .swap) (R := IR .swap - 1) (Z := Z250) L250.st hzl250
     show W _ _ _ _ _ _ (wi250.alloc (.cells (Z250 : List Value).toArray 170))
     generalize wi250.alloc (.cells (Z250 : List Value).toArray 170) = ws250 at N250 ⊢
     refine Af (Aa (Ac V V (Aj call86 V V (J4 _ _ N250.st (N250.nest.trans (L250.nest.trans (N245.nest.trans (L245.nest.trans (M.nest.trans hk1)))))) ?_ Be)))
     intro _ w253 g
     obtain ⟨Qi, q252, rfl, N250, H⟩ := N250.read rfl (by decide) g
     obtain ⟨w254, hst, N250⟩ := N250.store (off := 0) 0 H Cj rfl rfl
     refine Ab V (I5 _ _ _) V (An V V hst (Ar [(0, ptr p), (2, ptr w.heap.size), (3, ptr w1.heap.size), (4, .int .i64 ((n245 : Nat) : Int)), (16, .int .i64 ((i245 : Nat) : Int)), (17, ptr wi245.heap.size), (18, .int .i64 ((n250 : Nat) : Int)), (19, .int .i64 ((i250 : Nat) : Int)), (20, ptr wi250.heap.size)] ⟨V, V, V, V, V, V, V, V, V, trivial⟩ ?_))
     refine Af (Aa (Ac V V (Aj call77 V V (Fe _ _ N250.st (N250.nest.trans (L250.nest.trans (N245.nest.trans (L245.nest.trans (M.nest.trans hk1)))))) ?_ Be)))
     intro _ w257 g
     obtain ⟨c255, q256, rfl, N250, H⟩ := N250.read rfl (by decide) g
     obtain ⟨w258, hst, N250⟩ := N250.store (off := 1) 1 H Cc rfl rfl
     refine Ab V (I1 _ _ _) V (An V V hst (Ar [(0, ptr p), (2, ptr w.heap.size), (3, ptr w1.heap.size), (4, .int .i64 ((n245 : Nat) : Int)), (16, .int .i64 ((i245 : Nat) : Int)), (17, ptr wi245.heap.size), (18, .int .i64 ((n250 : Nat) : Int)), (19, .int .i64 ((i250 : Nat) : Int)), (20, ptr wi250.heap.size)] ⟨V, V, V, V, V, V, V, V, V, trivial⟩ ?_))
     obtain ⟨hl6, _, _⟩ := N250.val rfl
     have g := N250.good (sn := .swap) rfl rfl
     obtain ⟨vb2, w4, v', w5, t, q', hr1, hr2, L', hkp⟩ := L250.step (ty := 160) underlying160 hei250 hby250 (by decide) (by decide) hqb250 (by omega) g
     obtain ⟨hk1, hk2⟩ := hkp _ N245.blk.lt N245.ne
     obtain ⟨w6, hst, L', B'⟩ := L'.put (v' := v') (hk2.trans B250) N245.len rfl (.inr rfl) N245.ne (Nat.le_trans N245.base N245.c0) Fp
     have BN := (N250.frame.blk _ B250.lt N245.ne).trans B250
     refine Aa (Ab V (Dg _ _ _) V (Ai V (A4 Fp (hcell250 BN)) V (Ai V (Bg Fk hl6 N250.blk.all) V (A7 V hr1 V (AU V V hr2 V (Ab V (Dg _ _ _) V (An V V hst (A2 fun a ha => Az (Ad ?_)))))))))
     refine A8 ha (Aa (Ac V V (Al V V V V (Ah V V (A2 fun a ha => Ad ?_)))))
     exact ⟨(i250 + 1, v', w6), ha.weak ⟨rfl, rfl, rfl, rfl, rfl, rfl, rfl, congrArg some (AS (by have := L250.lim; omega)), trivial⟩, ⟨rfl, by show i250 + 1 ≤ n250; omega, l250 ++ [t], q', by simp [hl250], L', B'⟩, by show n250 - (i250 + 1) < n250 - i250; omega⟩
   rintro ⟨cv259, _⟩ w261 ⟨rfl, q260, N245⟩
   simp only at N245 ⊢
   obtain ⟨hl6, _, _⟩ := N245.val rfl
   have g := N245.good (sn := .charMap) rfl rfl
   obtain ⟨vb2, w4, v', w5, t, q', hr1, hr2, L', hkp⟩ := L245.step (ty := 34) underlying34 hei245 hby245 (by decide) (by decide) hqb245 (by omega) g
   obtain ⟨hk1, hk2⟩ := hkp _ M.blk.lt M.ne
   obtain ⟨w6, hst, L', B'⟩ := L'.put (v' := v') (hk2.trans B245) M.len rfl (.inr rfl) M.ne (Nat.le_trans M.base M.c0) Je
   have BN := (N245.frame.blk _ B245.lt M.ne).trans B245
   refine Aa (Ab V (D4 _ _ _) V (Ai V (A4 Je (hcell245 BN)) V (Ai V (Bg DF hl6 N245.blk.all) V (A7 V hr1 V (AU V V hr2 V (Ab V (D4 _ _ _) V (An V V hst (A2 fun a ha => Az (Ad ?_)))))))))
   refine A8 ha (Aa (Ac V V (Al V V V V (Ah V V (A2 fun a ha => Ad ?_)))))
   exact ⟨(i245 + 1, v', w6), ha.weak ⟨rfl, rfl, rfl, rfl, congrArg some (AS (by have := L245.lim; omega)), trivial⟩, ⟨rfl, by show i245 + 1 ≤ n245; omega, l245 ++ [t], q', by simp [hl245], L', B'⟩, by show n245 - (i245 + 1) < n245 - i245; omega⟩
 rintro ⟨cv262, _⟩ w264 ⟨rfl, q263, M⟩
 simp only at M ⊢
 have D := DQ.whole (sn := .sheet) M rfl rfl hb
 obtain ⟨w9, u1, u2, u3, u4, u5, u6⟩ := D.finish f1 h.ln (Nat.le_refl _) b1 EE rfl (by omega)
 refine Af (Aa (Ac V V (As V V (Ab V (DS _ _ _) V (Ai V u1 V (Al (v := .int .i64 ((q.nest : Nat) : Int)) V V ?_ V (As V V (Ab V (DS _ _ _) V (An V V u2 (Ae ?_))))))))))
 · have := EH (w := w264) (t := 3) (a := ((q.nest + 1 : Nat) : Int)) (b := 1) (by unfold Bu; omega)
   rwa [show ((q.nest + 1 : Nat) : Int) - 1 = ((q.nest : Nat) : Int) by omega] at this
 exact Af (Aa (Ai V u3 V (An V V u4 (Ae (AA fun a ha => BE V ha V u5 u6)))))
end Go.Sx
