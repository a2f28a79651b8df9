import Derived.Test.YtdldhfocpandoaaGreatStE
import Derived.Great.BuildSlice
set_option maxHeartbeats 8000000
set_option maxRecDepth 8000
namespace Go.Sx
open Go.Proofs Go.Proofs.Tryz
def Ck (P : Program) (e n bytes : Nat) : Prop := ∃ i z, P.info? e = some i ∧ i.zero = some z ∧ z.cells.size = n ∧ i.size = n ∧ i.bytes = bytes
theorem Kg {P : Program} {w : World} {t e n bytes : Nat} {v : Value} {cs : List Value} (hu : P.underlying t = some (.slice e)) (hi : Ck P e n bytes) (hn : 0 < n) (hn2 : n ≤ 2 ^ 24) (hv : v.cells = cs.toArray) (hl : cs.length = n) :
 (Instr.buildSlice t 1 #[(0, v)]).run P w = .ok (.slice (some ⟨w.heap.size, 0, none⟩) 1 1) (w.alloc (.cells cs.toArray e)) := by
 obtain ⟨i, z, h1, h2, h3, h4, h5⟩ := hi
 refine run_buildSlice w t e 1 _ _ i z hu h1 h2 (by rw [h4]; omega) (by rw [h4]; omega) ?_
 rw [h4]
 have := Go.Great.fill_whole hn [v] ((Array.range (1 * n)).map (z.cells[· % z.cells.size]!)) (by simp [hv, hl]) (by simp)
 simpa [hv] using this
def RepE (w : World) (S : Nat → Prop) (e : Ty) : List T → List (List Value) → Prop
 | [], [] => True
 | t :: l, c :: cs => Rep w S t e c ∧ RepE w S e l cs
 | _, _ => False
theorem RepE.agree {w w' : World} {S S' : Nat → Prop} (hS : ∀ b, S b → b < w.heap.size → S' b ∧ b < w'.heap.size ∧ w'.heap[b]? = w.heap[b]?) {e : Ty} : ∀ {l : List T} {cs : List (List Value)}, RepE w S e l cs → RepE w' S' e l cs
 | [], [], _ => trivial
 | _t :: _l, _c :: _cs, h => ⟨Rep.agree hS _ _ _ h.1, RepE.agree hS h.2⟩
 | [], _ :: _, h => h.elim
 | _ :: _, [], h => h.elim
theorem RepE.snoc {w : World} {S : Nat → Prop} {e : Ty} {t : T} {c : List Value} (ht : Rep w S t e c) : ∀ {l : List T} {cs : List (List Value)}, RepE w S e l cs → RepE w S e (l ++ [t]) (cs ++ [c])
 | [], [], _ => ⟨ht, trivial⟩
 | _x :: _l, _y :: _cs, h => ⟨h.1, RepE.snoc ht h.2⟩
 | [], _ :: _, h => h.elim
 | _ :: _, [], h => h.elim
theorem At.left {w : World} {b o : Nat} {x y : List Value} (h : At w b o (x ++ y)) : At w b o x := by
 intro j v hj
 refine h j v ?_
 rw [List.getElem?_append_left (List.getElem?_eq_some_iff.1 hj).1]; exact hj
theorem At.right {w : World} {b o : Nat} {x y : List Value} (h : At w b o (x ++ y)) : At w b (o + x.length) y := by
 intro j v hj
 have := h (x.length + j) v (by rw [List.getElem?_append_right (by omega)]; simpa using hj)
 rwa [← Nat.add_assoc] at this
theorem Kt {w : World} {S : Nat → Prop} {e : Ty} {b : Nat} : ∀ {l : List T} {cs : List (List Value)} {o : Nat}, RepE w S e l cs → At w b o cs.flatten → RepL w S e l b o
 | [], [], o, _, _ => by simp only [RepL]
 | t :: l, c :: cs, o, h, ha => by
  have h1 := (Rep.one _ _ _ h.1).1
  simp only [List.flatten_cons] at ha
  simp only [RepL]
  exact ⟨⟨c, ha.left, h1, h.1⟩, Kt h.2 (h1 ▸ ha.right)⟩
 | [], _ :: _, o, h, _ => h.elim
 | _ :: _, [], o, h, _ => h.elim
structure LSt (n0 p : Nat) (e : Ty) (tid : Nat) (s1 : RS) (w0 : World) (i : Nat) (v : Value) (si : RS) (w : World) : Prop where
 rst : RSt n0 p si w
 fr : Fr (only p) w0 (fun b => b = p ∨ w0.heap.size ≤ b) w
 new : ∀ b, Bk v b → w0.heap.size ≤ b
 rep : ∃ (l : List T) (cs : List (List Value)) (S : Nat → Prop), l.length = i ∧ DD l e s1 = some si ∧ RepE w S e l cs ∧ (∀ b, S b → w0.heap.size ≤ b ∧ ¬ Bk v b) ∧ w.ownsRow 0 tid e.size v i cs.flatten
 nest : si.nest = s1.nest
 base : n0 ≤ w0.heap.size
theorem KW {w : World} {ts tid b sz : Nat} {cs : List Value} (hu : prog.underlying ts = some (.slice tid)) (hl : cs.length = sz) (h1 : ∀ x ∈ cs, x.oneCell' = true) (hb : Blk w b cs tid) : Src prog sz ts (.slice (some ⟨b, 0, none⟩) 1 1) 1 cs w :=
 Src.ofSlice w hu _ _ _ cs (by omega) (fun j v hj => by rw [Addr.add_lit, hb.cell]; simpa using hj) h1
theorem El {w : World} {S : Nat → Prop} {t : T} {f : Ty} {cs : List Value} (h : Rep w S t f cs) : (CU f cs).cells = cs.toArray := by
 cases f with
 | st s => rfl
 | _ =>
  obtain ⟨h1, h2⟩ := Rep.one _ _ _ h
  obtain ⟨v, rfl⟩ := List.length_eq_one_iff.1 h1
  simp only [CU]
  have := h2 v (by simp)
  cases v <;> first | rfl | (simp [Value.oneCell'] at this)
theorem LSt.step {n0 p : Nat} {e : Ty} {tid ts bytes : Nat} {s1 si : RS} {w0 w w1 : World} {i : Nat} {v x : Value} {ty : TypeId} (hu : prog.underlying ts = some (.slice tid)) (hi : Ck prog tid e.size bytes) (hby : bytes ≤ 4096) (hsz : 0 < e.size) (hsz2 : e.size ≤ 2 ^ 24)
 (h : LSt n0 p e tid s1 w0 i v si w) (hr : Df n0 p e si w x w1) (hlen : i < 2 ^ 25) :
 ∃ vb w2 v' w3 s', (Instr.buildSlice ts 1 #[(0, x)]).run prog w1 = .ok vb w2 ∧ (Builtin.append_ #[ts, ts] ty #[v, vb]).run prog w2 = .ok v' w3 ∧ LSt n0 p e tid s1 w0 (i + 1) v' s' w3 := by
 obtain ⟨t, s', c, hc, rfl, hrep, hst, f, hn⟩ := hr
 obtain ⟨l, cs, S, hl, hchk, hre, hS, hrow⟩ := h.rep
 obtain ⟨hc1, hc2⟩ := Rep.one _ _ _ hrep
 obtain ⟨ii, z, i1, i2, i3, i4, i5⟩ := hi
 have hpl := h.rst.lp
 have hln := h.rst.ln
 have hbase := h.base
 have hne : ∀ b, Bk v b → b ≠ p := fun b hb e => by have := h.new b hb; omega
 have hw0 := h.fr.size
 have f2 : Fr (fun _ => False) w1 (fun _ => False) (w1.alloc (.cells c.toArray tid)) := Fr.alloc _ _ _
 have hb2 : Blk (w1.alloc (.cells c.toArray tid)) w1.heap.size c tid := AN
 have hs2 : (w1.alloc (.cells c.toArray tid)).heap.size = w1.heap.size + 1 := by simp
 have hrun := Kg (P := prog) (w := w1) (v := CU e c) hu ⟨ii, z, i1, i2, i3, i4, i5⟩ hsz hsz2 (El hrep) hc1
 generalize w1.alloc (.cells c.toArray tid) = w2 at f2 hb2 hs2 hrun
 have hrow2 : w2.ownsRow 0 tid e.size v i cs.flatten := AP hrow (fun b hb => by
  have hl := AT hrow hb
  rw [f2.blk b (Nat.lt_of_lt_of_le hl f.size) (fun h => h), f.blk b hl (hne b hb)])
 have hmul : (i + 1) * bytes ≤ 2 ^ 26 * 4096 := Nat.mul_le_mul (by omega) hby
 obtain ⟨v', w3, ha, hr3, g1, g2, _⟩ := GB (P := prog) (ty := ty) hu i1 i2 i4 i5 (i3.trans rfl) hrow2 (KW hu hc1 hc2 hb2) (by simp only [maxLen]; omega) (by omega)
 have f3 : Fr (Bk v) w2 (Bk v') w3 := EZ g1 g2
 have h3 := f3.size
 have h1 := f.size
 have keep : ∀ b, b < w1.heap.size → ¬ Bk v b → w3.heap[b]? = w1.heap[b]? := fun b hb hn => by
  rw [f3.blk b (by omega) hn, f2.blk b hb (fun h => h)]
 refine ⟨_, _, v', w3, s', hrun, ha, ⟨?_, ?_, ?_, ⟨l ++ [t], cs ++ [c], fun b => (S b ∨ w.heap.size ≤ b) ∧ b < w1.heap.size, ?_, ?_, ?_, ?_, ?_⟩, hn.trans h.nest, hbase⟩⟩
 · exact (hst.keep f2 (fun _ h => h.elim)).keep f3 (fun b hb => by have := h.new b hb; omega)
 · refine h.fr.trans ((f.drop (fun b hb => .inl hb)).trans ((f2.drop (fun b hb => hb.elim)).trans (f3.drop (fun b hb => .inr (h.new b hb)))))
 · intro b hb
   rcases f3.own b hb with h4 | h4
   · exact h.new b h4
   · omega
 · simp [hl]
 · rw [K9, hchk]; exact hc
 · refine RepE.snoc (Rep.agree (fun b hb hl' => ⟨⟨.inr hb, hl'⟩, by omega, keep b hl' (fun ho => by have := AT hrow ho; omega)⟩) _ _ _ hrep) (RepE.agree (fun b hb hl' => ⟨⟨.inl hb, by omega⟩, by omega, ?_⟩) hre)
   rw [keep b (by omega) (hS b hb).2, f.blk b hl' (fun e => by have := (hS b hb).1; omega)]
 · rintro b ⟨hb, hl'⟩
   refine ⟨?_, fun ho => ?_⟩
   · rcases hb with hb | hb
     · exact (hS b hb).1
     · omega
   · rcases f3.own b ho with h4 | h4
     · rcases hb with hb | hb
       · exact (hS b hb).2 h4
       · have := AT hrow h4; omega
     · omega
 · rw [List.flatten_append]; simpa using hr3
theorem LSt.done {n0 p : Nat} {e : Ty} {tid : Nat} {s s1 si : RS} {w00 w0 w : World} {n : Nat} {v : Value} (h : LSt n0 p e tid s1 w0 n v si w) (he : s.eat n = some s1) (hle : n ≤ s1.b.length) (f : Fr (only p) w00 (only p) w0) (_hp : p < w00.heap.size) :
 Df n0 p (.list e) s w00 v w := by
 obtain ⟨l, cs, S, hl, hchk, hre, hS, hrow⟩ := h.rep
 refine ⟨.list l, si, [v], ?_, rfl, ?_, h.rst, ?_, h.nest.trans (BJ he).1⟩
 · simp only [CK]
   rw [hl, he]; simp only [Option.bind_some]
   rw [if_pos hle]; exact hchk
 · have hsz := f.size
   have hre' : RepE w (fun b => w00.heap.size ≤ b) e l cs := RepE.agree (fun b hb hl' => ⟨by have := (hS b hb).1; omega, hl', rfl⟩) hre
   simp only [Rep]
   rcases hrow.2 with ⟨rfl, h0⟩ | ⟨g, cap, cur, rfl, _, hg, h1, h2, h3, h4⟩
   · left
     exact ⟨⟨_, _, rfl⟩, List.eq_nil_of_length_eq_zero (by omega)⟩
   · right
     refine ⟨g, 0, cap, by rw [hl], ?_, (Array.getElem?_eq_some_iff.1 hg).1, by omega, h2, Kt hre' ?_⟩
     · have := h.new g rfl; omega
     · intro j x hj
       rw [← h4, List.getElem?_take] at hj
       split at hj
       · simp [World.cell?, hg]; simpa using hj
       · cases hj
 · have hfr := h.fr
   have hsz := f.size
   exact ⟨hfr.os.trans f.os, hfr.tape.trans f.tape, hfr.output.trans f.output, Nat.le_trans hsz hfr.size, fun b hb hn => by
    rw [hfr.blk b (by omega) hn, f.blk b hb hn], fun b hb => .inl hb⟩
theorem LSt.start {n0 p : Nat} {e : Ty} {tid : Nat} {s1 : RS} {w : World} (h : RSt n0 p s1 w) : LSt n0 p e tid s1 w 0 (.slice none 0 0) s1 w :=
 ⟨h, ⟨rfl, rfl, rfl, Nat.le_refl _, fun _ _ _ => rfl, fun b hb => hb⟩, fun b hb => (E6 b hb).elim, ⟨[], [], fun _ => False, rfl, by simp only [DD], trivial, fun _ h => h.elim, World.ownsRow_nil _ _ _ _⟩, rfl, h.ln⟩
theorem LSt.bad {n0 p : Nat} {e : Ty} {tid : Nat} {s s1 si : RS} {w00 w0 w w' : World} {i n : Nat} {v : Value} {ch : List PanicEntry} (h : LSt n0 p e tid s1 w0 i v si w) (he : s.eat n = some s1) (hi : i < n) (f : Fr (only p) w00 (only p) w0) (_hp : p < w00.heap.size)
 (hf : Jw n0 p e si w ch w') : Jw n0 p (.list e) s w00 ch w' := by
 obtain ⟨hch, hb, s', hs', f', hn⟩ := hf
 obtain ⟨l, cs, S, hl, hchk, _⟩ := h.rep
 refine ⟨hch, fun t => ?_, s', hs', ?_, ?_⟩
 · cases t <;> simp only [CK]
   rename_i l'
   cases hl' : s.eat l'.length with
   | none => rfl
   | some s2 =>
    obtain ⟨e1, rfl⟩ := CD he hl'
    simp only [Option.bind_some]
    split
    · exact KT l e _ si hchk hb l' (by omega)
    · rfl
 · have hfr := h.fr
   have hsz := f.size
   exact ⟨f'.os.trans (hfr.os.trans f.os), f'.tape.trans (hfr.tape.trans f.tape), f'.output.trans (hfr.output.trans f.output), Nat.le_trans hsz (Nat.le_trans hfr.size f'.size), fun b hb hn => by
    have := hfr.size
    rw [f'.blk b (by omega) hn, hfr.blk b (by omega) hn, f.blk b hb hn], fun b hb => .inl hb⟩
 · have := (BJ he).1; have := h.nest; omega
def DG (n0 p : Nat) (f fe : FuncId) (e : Ty) (k : Nat) : Prop :=
 ∀ s w, RSt n0 p s w → s.nest = k → Calls prog f [ptr p, .func (.func fe) #[ptr p] #[]].toArray w (Dq (Df n0 p (.list e) s w) (Jw n0 p (.list e) s w))
theorem CJ {s : RS} {e : Ty} (h : ∀ n s', s.eat n = some s' → ¬ n ≤ s'.b.length) : L1 (.list e) s := by
 intro t
 cases t <;> simp only [CK]
 rename_i l
 cases hl : s.eat l.length with
 | none => rfl
 | some s2 => simp only [Option.bind_some]; rw [if_neg (h _ _ hl)]
end Go.Sx
namespace Go.Sx
open Go.Proofs Go.Proofs.Tryz
theorem B7 {P : Program} {e n : Nat} (h : (P.info? e).map (fun i => (i.zero.map (fun z => z.cells.size), i.size, Nat.ble i.bytes 4096)) = some (some n, n, true)) : ∃ bytes, Ck P e n bytes ∧ bytes ≤ 4096 := by
 cases hi : P.info? e with
 | none => rw [hi] at h; cases h
 | some i =>
  rw [hi] at h
  simp only [Option.map_some, Option.some.injEq, Prod.mk.injEq, Option.map_eq_some_iff] at h
  obtain ⟨⟨z, hz, hzs⟩, h2, h3⟩ := h
  exact ⟨_, ⟨i, z, hi, hz, hzs, h2, rfl⟩, Nat.le_of_ble_eq_true h3⟩
theorem Mj {n0 p k : Nat} (h : BG n0 p 58 (.st .use) k) : DG n0 p 57 58 (.st .use) k := by
 intro s w hs hk
 obtain ⟨bytes, hei, hby⟩ : ∃ bytes, Ck prog 48 (Ty.size (.st .use)) bytes ∧ bytes ≤ 4096 := B7 (by kernel_rfl)
 have hp : p < w.heap.size := Nat.lt_of_lt_of_le hs.lp hs.ln
 refine AB 17 func57 V V V ?_
 refine Af (Aa (Ah V V (Ae (Af (Aa (Ah V V (Ae ?_)))))))
 refine B9 (ι := Value) (fun v => [(5, v)]) (fun v w' => Df n0 p (.list (.st .use)) s w v w') ?_ ?_
 · refine Af (Aa (Ac V V (Aj call54 V V (Kv hs) ?_ ?_)))
   rotate_left
   · rintro ch w1 ⟨rfl, hb, s', h1, f1, hn⟩ a ha
     exact Am (Am (Av ha ⟨rfl, CJ hb, s', h1, f1, Nat.le_of_eq hn.symm⟩))
   rintro _ w1 ⟨n, s1, he, hle, rfl, h1, f1, _⟩
   have hb25 := h1.sb
   have hnest := (BJ he).1
   refine Ac V V (Ae ?_)
   refine A1 (AW (ι := Nat × Value) (fun i => [(0, ptr p), (1, .func (.func 58) #[ptr p] #[]), (5, i.2), (7, .int .i64 ((n : Nat) : Int)), (8, .int .i64 ((i.1 : Nat) : Int))]) (fun i w' => i.1 ≤ n ∧ ∃ si, LSt n0 p (.st .use) 48 s1 w1 i.1 i.2 si w') (fun i => n - i.1) (0, .slice none 0 0)
    ⟨V, V, V, V, V, trivial⟩ ⟨Nat.zero_le _, _, LSt.start h1⟩ ?_)
   rintro ⟨i, v⟩ w2 ⟨hi, si, hl⟩
   simp only at hi hl ⊢
   refine Af (Aa (Al V V V V (Ae (Af ?_))))
   refine AK V (fun ht => A_ fun a ha => Ad ?_) (fun hf => AQ fun a ha => Aq (Aq (A3 (Ad ?_))))
   · have hlt : i < n := by simp at ht; omega
     refine A8 ha (Af (A1 (Aa (Ac V V (Ac V V (B8 V call58 V V (h si w2 hl.rst (hl.nest.trans (hnest.trans hk))) ?_ ?_))))))
     rotate_left
     · intro ch w3 hf a ha
       exact AD (Am (Am (AD (Am (Av ha (hl.bad he hlt f1 hp hf))))))
     intro x w3 hg
     obtain ⟨vb, w4, v', w5, s', hr1, hr2, hl'⟩ := hl.step (ty := 26) underlying26 hei hby (by decide) (by decide) hg (by omega)
     refine A7 V hr1 V (AU V V hr2 V (Ah V V (A2 fun a ha => Az (Ad ?_))))
     refine A8 ha (Aa (Al V V V V (Ac V V (A2 fun a ha => Ad ?_))))
     exact ⟨(i + 1, v'), ha.weak ⟨rfl, rfl, rfl, rfl, by show some _ = some _; rw [AS (by omega)], trivial⟩, ⟨hlt, _, hl'⟩, by simp only; omega⟩
   · have : i = n := by simp at hf; omega
     subst this
     exact ⟨v, ha.weak ⟨V, trivial⟩, hl.done he hle f1 hp⟩
 · intro v w2 hg
   exact Af (Aa (Ac V V (Ah V V (Ae (AA fun a ha => Au V ha V hg)))))
theorem S2 {n0 p k : Nat} (h : BG n0 p 60 (.st .template) k) : DG n0 p 59 60 (.st .template) k := by
 intro s w hs hk
 obtain ⟨bytes, hei, hby⟩ : ∃ bytes, Ck prog 74 (Ty.size (.st .template)) bytes ∧ bytes ≤ 4096 := B7 (by kernel_rfl)
 have hp : p < w.heap.size := Nat.lt_of_lt_of_le hs.lp hs.ln
 refine AB 17 func59 V V V ?_
 refine Af (Aa (Ah V V (Ae (Af (Aa (Ah V V (Ae ?_)))))))
 refine B9 (ι := Value) (fun v => [(5, v)]) (fun v w' => Df n0 p (.list (.st .template)) s w v w') ?_ ?_
 · refine Af (Aa (Ac V V (Aj call54 V V (Kv hs) ?_ ?_)))
   rotate_left
   · rintro ch w1 ⟨rfl, hb, s', h1, f1, hn⟩ a ha
     exact Am (Am (Av ha ⟨rfl, CJ hb, s', h1, f1, Nat.le_of_eq hn.symm⟩))
   rintro _ w1 ⟨n, s1, he, hle, rfl, h1, f1, _⟩
   have hb25 := h1.sb
   have hnest := (BJ he).1
   refine Ac V V (Ae ?_)
   refine A1 (AW (ι := Nat × Value) (fun i => [(0, ptr p), (1, .func (.func 60) #[ptr p] #[]), (5, i.2), (7, .int .i64 ((n : Nat) : Int)), (8, .int .i64 ((i.1 : Nat) : Int))]) (fun i w' => i.1 ≤ n ∧ ∃ si, LSt n0 p (.st .template) 74 s1 w1 i.1 i.2 si w') (fun i => n - i.1) (0, .slice none 0 0)
    ⟨V, V, V, V, V, trivial⟩ ⟨Nat.zero_le _, _, LSt.start h1⟩ ?_)
   rintro ⟨i, v⟩ w2 ⟨hi, si, hl⟩
   simp only at hi hl ⊢
   refine Af (Aa (Al V V V V (Ae (Af ?_))))
   refine AK V (fun ht => A_ fun a ha => Ad ?_) (fun hf => AQ fun a ha => Aq (Aq (A3 (Ad ?_))))
   · have hlt : i < n := by simp at ht; omega
     refine A8 ha (Af (A1 (Aa (Ac V V (Ac V V (B8 V call60 V V (h si w2 hl.rst (hl.nest.trans (hnest.trans hk))) ?_ ?_))))))
     rotate_left
     · intro ch w3 hf a ha
       exact AD (Am (Am (AD (Am (Av ha (hl.bad he hlt f1 hp hf))))))
     intro x w3 hg
     obtain ⟨vb, w4, v', w5, s', hr1, hr2, hl'⟩ := hl.step (ty := 27) underlying27 hei hby (by decide) (by decide) hg (by omega)
     refine A7 V hr1 V (AU V V hr2 V (Ah V V (A2 fun a ha => Az (Ad ?_))))
     refine A8 ha (Aa (Al V V V V (Ac V V (A2 fun a ha => Ad ?_))))
     exact ⟨(i + 1, v'), ha.weak ⟨rfl, rfl, rfl, rfl, by show some _ = some _; rw [AS (by omega)], trivial⟩, ⟨hlt, _, hl'⟩, by simp only; omega⟩
   · have : i = n := by simp at hf; omega
     subst this
     exact ⟨v, ha.weak ⟨V, trivial⟩, hl.done he hle f1 hp⟩
 · intro v w2 hg
   exact Af (Aa (Ac V V (Ah V V (Ae (AA fun a ha => Au V ha V hg)))))
theorem Mg {n0 p k : Nat} (h : BG n0 p 62 (.st .dfn) k) : DG n0 p 61 62 (.st .dfn) k := by
 intro s w hs hk
 obtain ⟨bytes, hei, hby⟩ : ∃ bytes, Ck prog 140 (Ty.size (.st .dfn)) bytes ∧ bytes ≤ 4096 := B7 (by kernel_rfl)
 have hp : p < w.heap.size := Nat.lt_of_lt_of_le hs.lp hs.ln
 refine AB 17 func61 V V V ?_
 refine Af (Aa (Ah V V (Ae (Af (Aa (Ah V V (Ae ?_)))))))
 refine B9 (ι := Value) (fun v => [(5, v)]) (fun v w' => Df n0 p (.list (.st .dfn)) s w v w') ?_ ?_
 · refine Af (Aa (Ac V V (Aj call54 V V (Kv hs) ?_ ?_)))
   rotate_left
   · rintro ch w1 ⟨rfl, hb, s', h1, f1, hn⟩ a ha
     exact Am (Am (Av ha ⟨rfl, CJ hb, s', h1, f1, Nat.le_of_eq hn.symm⟩))
   rintro _ w1 ⟨n, s1, he, hle, rfl, h1, f1, _⟩
   have hb25 := h1.sb
   have hnest := (BJ he).1
   refine Ac V V (Ae ?_)
   refine A1 (AW (ι := Nat × Value) (fun i => [(0, ptr p), (1, .func (.func 62) #[ptr p] #[]), (5, i.2), (7, .int .i64 ((n : Nat) : Int)), (8, .int .i64 ((i.1 : Nat) : Int))]) (fun i w' => i.1 ≤ n ∧ ∃ si, LSt n0 p (.st .dfn) 140 s1 w1 i.1 i.2 si w') (fun i => n - i.1) (0, .slice none 0 0)
    ⟨V, V, V, V, V, trivial⟩ ⟨Nat.zero_le _, _, LSt.start h1⟩ ?_)
   rintro ⟨i, v⟩ w2 ⟨hi, si, hl⟩
   simp only at hi hl ⊢
   refine Af (Aa (Al V V V V (Ae (Af ?_))))
   refine AK V (fun ht => A_ fun a ha => Ad ?_) (fun hf => AQ fun a ha => Aq (Aq (A3 (Ad ?_))))
   · have hlt : i < n := by simp at ht; omega
     refine A8 ha (Af (A1 (Aa (Ac V V (Ac V V (B8 V call62 V V (h si w2 hl.rst (hl.nest.trans (hnest.trans hk))) ?_ ?_))))))
     rotate_left
     · intro ch w3 hf a ha
       exact AD (Am (Am (AD (Am (Av ha (hl.bad he hlt f1 hp hf))))))
     intro x w3 hg
     obtain ⟨vb, w4, v', w5, s', hr1, hr2, hl'⟩ := hl.step (ty := 28) underlying28 hei hby (by decide) (by decide) hg (by omega)
     refine A7 V hr1 V (AU V V hr2 V (Ah V V (A2 fun a ha => Az (Ad ?_))))
     refine A8 ha (Aa (Al V V V V (Ac V V (A2 fun a ha => Ad ?_))))
     exact ⟨(i + 1, v'), ha.weak ⟨rfl, rfl, rfl, rfl, by show some _ = some _; rw [AS (by omega)], trivial⟩, ⟨hlt, _, hl'⟩, by simp only; omega⟩
   · have : i = n := by simp at hf; omega
     subst this
     exact ⟨v, ha.weak ⟨V, trivial⟩, hl.done he hle f1 hp⟩
 · intro v w2 hg
   exact Af (Aa (Ac V V (Ah V V (Ae (AA fun a ha => Au V ha V hg)))))
theorem Sm {n0 p k : Nat} (h : BG n0 p 64 (.st .global) k) : DG n0 p 63 64 (.st .global) k := by
 intro s w hs hk
 obtain ⟨bytes, hei, hby⟩ : ∃ bytes, Ck prog 144 (Ty.size (.st .global)) bytes ∧ bytes ≤ 4096 := B7 (by kernel_rfl)
 have hp : p < w.heap.size := Nat.lt_of_lt_of_le hs.lp hs.ln
 refine AB 17 func63 V V V ?_
 refine Af (Aa (Ah V V (Ae (Af (Aa (Ah V V (Ae ?_)))))))
 refine B9 (ι := Value) (fun v => [(5, v)]) (fun v w' => Df n0 p (.list (.st .global)) s w v w') ?_ ?_
 · refine Af (Aa (Ac V V (Aj call54 V V (Kv hs) ?_ ?_)))
   rotate_left
   · rintro ch w1 ⟨rfl, hb, s', h1, f1, hn⟩ a ha
     exact Am (Am (Av ha ⟨rfl, CJ hb, s', h1, f1, Nat.le_of_eq hn.symm⟩))
   rintro _ w1 ⟨n, s1, he, hle, rfl, h1, f1, _⟩
   have hb25 := h1.sb
   have hnest := (BJ he).1
   refine Ac V V (Ae ?_)
   refine A1 (AW (ι := Nat × Value) (fun i => [(0, ptr p), (1, .func (.func 64) #[ptr p] #[]), (5, i.2), (7, .int .i64 ((n : Nat) : Int)), (8, .int .i64 ((i.1 : Nat) : Int))]) (fun i w' => i.1 ≤ n ∧ ∃ si, LSt n0 p (.st .global) 144 s1 w1 i.1 i.2 si w') (fun i => n - i.1) (0, .slice none 0 0)
    ⟨V, V, V, V, V, trivial⟩ ⟨Nat.zero_le _, _, LSt.start h1⟩ ?_)
   rintro ⟨i, v⟩ w2 ⟨hi, si, hl⟩
   simp only at hi hl ⊢
   refine Af (Aa (Al V V V V (Ae (Af ?_))))
   refine AK V (fun ht => A_ fun a ha => Ad ?_) (fun hf => AQ fun a ha => Aq (Aq (A3 (Ad ?_))))
   · have hlt : i < n := by simp at ht; omega
     refine A8 ha (Af (A1 (Aa (Ac V V (Ac V V (B8 V call64 V V (h si w2 hl.rst (hl.nest.trans (hnest.trans hk))) ?_ ?_))))))
     rotate_left
     · intro ch w3 hf a ha
       exact AD (Am (Am (AD (Am (Av ha (hl.bad he hlt f1 hp hf))))))
     intro x w3 hg
     obtain ⟨vb, w4, v', w5, s', hr1, hr2, hl'⟩ := hl.step (ty := 29) underlying29 hei hby (by decide) (by decide) hg (by omega)
     refine A7 V hr1 V (AU V V hr2 V (Ah V V (A2 fun a ha => Az (Ad ?_))))
     refine A8 ha (Aa (Al V V V V (Ac V V (A2 fun a ha => Ad ?_))))
     exact ⟨(i + 1, v'), ha.weak ⟨rfl, rfl, rfl, rfl, by show some _ = some _; rw [AS (by omega)], trivial⟩, ⟨hlt, _, hl'⟩, by simp only; omega⟩
   · have : i = n := by simp at hf; omega
     subst this
     exact ⟨v, ha.weak ⟨V, trivial⟩, hl.done he hle f1 hp⟩
 · intro v w2 hg
   exact Af (Aa (Ac V V (Ah V V (Ae (AA fun a ha => Au V ha V hg)))))
theorem Mk {n0 p k : Nat} (h : BG n0 p 66 (.st .key) k) : DG n0 p 65 66 (.st .key) k := by
 intro s w hs hk
 obtain ⟨bytes, hei, hby⟩ : ∃ bytes, Ck prog 76 (Ty.size (.st .key)) bytes ∧ bytes ≤ 4096 := B7 (by kernel_rfl)
 have hp : p < w.heap.size := Nat.lt_of_lt_of_le hs.lp hs.ln
 refine AB 17 func65 V V V ?_
 refine Af (Aa (Ah V V (Ae (Af (Aa (Ah V V (Ae ?_)))))))
 refine B9 (ι := Value) (fun v => [(5, v)]) (fun v w' => Df n0 p (.list (.st .key)) s w v w') ?_ ?_
 · refine Af (Aa (Ac V V (Aj call54 V V (Kv hs) ?_ ?_)))
   rotate_left
   · rintro ch w1 ⟨rfl, hb, s', h1, f1, hn⟩ a ha
     exact Am (Am (Av ha ⟨rfl, CJ hb, s', h1, f1, Nat.le_of_eq hn.symm⟩))
   rintro _ w1 ⟨n, s1, he, hle, rfl, h1, f1, _⟩
   have hb25 := h1.sb
   have hnest := (BJ he).1
   refine Ac V V (Ae ?_)
   refine A1 (AW (ι := Nat × Value) (fun i => [(0, ptr p), (1, .func (.func 66) #[ptr p] #[]), (5, i.2), (7, .int .i64 ((n : Nat) : Int)), (8, .int .i64 ((i.1 : Nat) : Int))]) (fun i w' => i.1 ≤ n ∧ ∃ si, LSt n0 p (.st .key) 76 s1 w1 i.1 i.2 si w') (fun i => n - i.1) (0, .slice none 0 0)
    ⟨V, V, V, V, V, trivial⟩ ⟨Nat.zero_le _, _, LSt.start h1⟩ ?_)
   rintro ⟨i, v⟩ w2 ⟨hi, si, hl⟩
   simp only at hi hl ⊢
   refine Af (Aa (Al V V V V (Ae (Af ?_))))
   refine AK V (fun ht => A_ fun a ha => Ad ?_) (fun hf => AQ fun a ha => Aq (Aq (A3 (Ad ?_))))
   · have hlt : i < n := by simp at ht; omega
     refine A8 ha (Af (A1 (Aa (Ac V V (Ac V V (B8 V call66 V V (h si w2 hl.rst (hl.nest.trans (hnest.trans hk))) ?_ ?_))))))
     rotate_left
     · intro ch w3 hf a ha
       exact AD (Am (Am (AD (Am (Av ha (hl.bad he hlt f1 hp hf))))))
     intro x w3 hg
     obtain ⟨vb, w4, v', w5, s', hr1, hr2, hl'⟩ := hl.step (ty := 30) underlying30 hei hby (by decide) (by decide) hg (by omega)
     refine A7 V hr1 V (AU V V hr2 V (Ah V V (A2 fun a ha => Az (Ad ?_))))
     refine A8 ha (Aa (Al V V V V (Ac V V (A2 fun a ha => Ad ?_))))
     exact ⟨(i + 1, v'), ha.weak ⟨rfl, rfl, rfl, rfl, by show some _ = some _; rw [AS (by omega)], trivial⟩, ⟨hlt, _, hl'⟩, by simp only; omega⟩
   · have : i = n := by simp at hf; omega
     subst this
     exact ⟨v, ha.weak ⟨V, trivial⟩, hl.done he hle f1 hp⟩
 · intro v w2 hg
   exact Af (Aa (Ac V V (Ah V V (Ae (AA fun a ha => Au V ha V hg)))))
theorem Sv {n0 p k : Nat} (h : BG n0 p 68 (.st .accum) k) : DG n0 p 67 68 (.st .accum) k := by
 intro s w hs hk
 obtain ⟨bytes, hei, hby⟩ : ∃ bytes, Ck prog 151 (Ty.size (.st .accum)) bytes ∧ bytes ≤ 4096 := B7 (by kernel_rfl)
 have hp : p < w.heap.size := Nat.lt_of_lt_of_le hs.lp hs.ln
 refine AB 17 func67 V V V ?_
 refine Af (Aa (Ah V V (Ae (Af (Aa (Ah V V (Ae ?_)))))))
 refine B9 (ι := Value) (fun v => [(5, v)]) (fun v w' => Df n0 p (.list (.st .accum)) s w v w') ?_ ?_
 · refine Af (Aa (Ac V V (Aj call54 V V (Kv hs) ?_ ?_)))
   rotate_left
   · rintro ch w1 ⟨rfl, hb, s', h1, f1, hn⟩ a ha
     exact Am (Am (Av ha ⟨rfl, CJ hb, s', h1, f1, Nat.le_of_eq hn.symm⟩))
   rintro _ w1 ⟨n, s1, he, hle, rfl, h1, f1, _⟩
   have hb25 := h1.sb
   have hnest := (BJ he).1
   refine Ac V V (Ae ?_)
   refine A1 (AW (ι := Nat × Value) (fun i => [(0, ptr p), (1, .func (.func 68) #[ptr p] #[]), (5, i.2), (7, .int .i64 ((n : Nat) : Int)), (8, .int .i64 ((i.1 : Nat) : Int))]) (fun i w' => i.1 ≤ n ∧ ∃ si, LSt n0 p (.st .accum) 151 s1 w1 i.1 i.2 si w') (fun i => n - i.1) (0, .slice none 0 0)
    ⟨V, V, V, V, V, trivial⟩ ⟨Nat.zero_le _, _, LSt.start h1⟩ ?_)
   rintro ⟨i, v⟩ w2 ⟨hi, si, hl⟩
   simp only at hi hl ⊢
   refine Af (Aa (Al V V V V (Ae (Af ?_))))
   refine AK V (fun ht => A_ fun a ha => Ad ?_) (fun hf => AQ fun a ha => Aq (Aq (A3 (Ad ?_))))
   · have hlt : i < n := by simp at ht; omega
     refine A8 ha (Af (A1 (Aa (Ac V V (Ac V V (B8 V call68 V V (h si w2 hl.rst (hl.nest.trans (hnest.trans hk))) ?_ ?_))))))
     rotate_left
     · intro ch w3 hf a ha
       exact AD (Am (Am (AD (Am (Av ha (hl.bad he hlt f1 hp hf))))))
     intro x w3 hg
     obtain ⟨vb, w4, v', w5, s', hr1, hr2, hl'⟩ := hl.step (ty := 31) underlying31 hei hby (by decide) (by decide) hg (by omega)
     refine A7 V hr1 V (AU V V hr2 V (Ah V V (A2 fun a ha => Az (Ad ?_))))
     refine A8 ha (Aa (Al V V V V (Ac V V (A2 fun a ha => Ad ?_))))
     exact ⟨(i + 1, v'), ha.weak ⟨rfl, rfl, rfl, rfl, by show some _ = some _; rw [AS (by omega)], trivial⟩, ⟨hlt, _, hl'⟩, by simp only; omega⟩
   · have : i = n := by simp at hf; omega
     subst this
     exact ⟨v, ha.weak ⟨V, trivial⟩, hl.done he hle f1 hp⟩
 · intro v w2 hg
   exact Af (Aa (Ac V V (Ah V V (Ae (AA fun a ha => Au V ha V hg)))))
theorem Me {n0 p k : Nat} (h : BG n0 p 70 (.st .mode) k) : DG n0 p 69 70 (.st .mode) k := by
 intro s w hs hk
 obtain ⟨bytes, hei, hby⟩ : ∃ bytes, Ck prog 84 (Ty.size (.st .mode)) bytes ∧ bytes ≤ 4096 := B7 (by kernel_rfl)
 have hp : p < w.heap.size := Nat.lt_of_lt_of_le hs.lp hs.ln
 refine AB 17 func69 V V V ?_
 refine Af (Aa (Ah V V (Ae (Af (Aa (Ah V V (Ae ?_)))))))
 refine B9 (ι := Value) (fun v => [(5, v)]) (fun v w' => Df n0 p (.list (.st .mode)) s w v w') ?_ ?_
 · refine Af (Aa (Ac V V (Aj call54 V V (Kv hs) ?_ ?_)))
   rotate_left
   · rintro ch w1 ⟨rfl, hb, s', h1, f1, hn⟩ a ha
     exact Am (Am (Av ha ⟨rfl, CJ hb, s', h1, f1, Nat.le_of_eq hn.symm⟩))
   rintro _ w1 ⟨n, s1, he, hle, rfl, h1, f1, _⟩
   have hb25 := h1.sb
   have hnest := (BJ he).1
   refine Ac V V (Ae ?_)
   refine A1 (AW (ι := Nat × Value) (fun i => [(0, ptr p), (1, .func (.func 70) #[ptr p] #[]), (5, i.2), (7, .int .i64 ((n : Nat) : Int)), (8, .int .i64 ((i.1 : Nat) : Int))]) (fun i w' => i.1 ≤ n ∧ ∃ si, LSt n0 p (.st .mode) 84 s1 w1 i.1 i.2 si w') (fun i => n - i.1) (0, .slice none 0 0)
    ⟨V, V, V, V, V, trivial⟩ ⟨Nat.zero_le _, _, LSt.start h1⟩ ?_)
   rintro ⟨i, v⟩ w2 ⟨hi, si, hl⟩
   simp only at hi hl ⊢
   refine Af (Aa (Al V V V V (Ae (Af ?_))))
   refine AK V (fun ht => A_ fun a ha => Ad ?_) (fun hf => AQ fun a ha => Aq (Aq (A3 (Ad ?_))))
   · have hlt : i < n := by simp at ht; omega
     refine A8 ha (Af (A1 (Aa (Ac V V (Ac V V (B8 V call70 V V (h si w2 hl.rst (hl.nest.trans (hnest.trans hk))) ?_ ?_))))))
     rotate_left
     · intro ch w3 hf a ha
       exact AD (Am (Am (AD (Am (Av ha (hl.bad he hlt f1 hp hf))))))
     intro x w3 hg
     obtain ⟨vb, w4, v', w5, s', hr1, hr2, hl'⟩ := hl.step (ty := 32) underlying32 hei hby (by decide) (by decide) hg (by omega)
     refine A7 V hr1 V (AU V V hr2 V (Ah V V (A2 fun a ha => Az (Ad ?_))))
     refine A8 ha (Aa (Al V V V V (Ac V V (A2 fun a ha => Ad ?_))))
     exact ⟨(i + 1, v'), ha.weak ⟨rfl, rfl, rfl, rfl, by show some _ = some _; rw [AS (by omega)], trivial⟩, ⟨hlt, _, hl'⟩, by simp only; omega⟩
   · have : i = n := by simp at hf; omega
     subst this
     exact ⟨v, ha.weak ⟨V, trivial⟩, hl.done he hle f1 hp⟩
 · intro v w2 hg
   exact Af (Aa (Ac V V (Ah V V (Ae (AA fun a ha => Au V ha V hg)))))
theorem Sd {n0 p k : Nat} (h : BG n0 p 72 (.st .output) k) : DG n0 p 71 72 (.st .output) k := by
 intro s w hs hk
 obtain ⟨bytes, hei, hby⟩ : ∃ bytes, Ck prog 157 (Ty.size (.st .output)) bytes ∧ bytes ≤ 4096 := B7 (by kernel_rfl)
 have hp : p < w.heap.size := Nat.lt_of_lt_of_le hs.lp hs.ln
 refine AB 17 func71 V V V ?_
 refine Af (Aa (Ah V V (Ae (Af (Aa (Ah V V (Ae ?_)))))))
 refine B9 (ι := Value) (fun v => [(5, v)]) (fun v w' => Df n0 p (.list (.st .output)) s w v w') ?_ ?_
 · refine Af (Aa (Ac V V (Aj call54 V V (Kv hs) ?_ ?_)))
   rotate_left
   · rintro ch w1 ⟨rfl, hb, s', h1, f1, hn⟩ a ha
     exact Am (Am (Av ha ⟨rfl, CJ hb, s', h1, f1, Nat.le_of_eq hn.symm⟩))
   rintro _ w1 ⟨n, s1, he, hle, rfl, h1, f1, _⟩
   have hb25 := h1.sb
   have hnest := (BJ he).1
   refine Ac V V (Ae ?_)
   refine A1 (AW (ι := Nat × Value) (fun i => [(0, ptr p), (1, .func (.func 72) #[ptr p] #[]), (5, i.2), (7, .int .i64 ((n : Nat) : Int)), (8, .int .i64 ((i.1 : Nat) : Int))]) (fun i w' => i.1 ≤ n ∧ ∃ si, LSt n0 p (.st .output) 157 s1 w1 i.1 i.2 si w') (fun i => n - i.1) (0, .slice none 0 0)
    ⟨V, V, V, V, V, trivial⟩ ⟨Nat.zero_le _, _, LSt.start h1⟩ ?_)
   rintro ⟨i, v⟩ w2 ⟨hi, si, hl⟩
   simp only at hi hl ⊢
   refine Af (Aa (Al V V V V (Ae (Af ?_))))
   refine AK V (fun ht => A_ fun a ha => Ad ?_) (fun hf => AQ fun a ha => Aq (Aq (A3 (Ad ?_))))
   · have hlt : i < n := by simp at ht; omega
     refine A8 ha (Af (A1 (Aa (Ac V V (Ac V V (B8 V call72 V V (h si w2 hl.rst (hl.nest.trans (hnest.trans hk))) ?_ ?_))))))
     rotate_left
     · intro ch w3 hf a ha
       exact AD (Am (Am (AD (Am (Av ha (hl.bad he hlt f1 hp hf))))))
     intro x w3 hg
     obtain ⟨vb, w4, v', w5, s', hr1, hr2, hl'⟩ := hl.step (ty := 33) underlying33 hei hby (by decide) (by decide) hg (by omega)
     refine A7 V hr1 V (AU V V hr2 V (Ah V V (A2 fun a ha => Az (Ad ?_))))
     refine A8 ha (Aa (Al V V V V (Ac V V (A2 fun a ha => Ad ?_))))
     exact ⟨(i + 1, v'), ha.weak ⟨rfl, rfl, rfl, rfl, by show some _ = some _; rw [AS (by omega)], trivial⟩, ⟨hlt, _, hl'⟩, by simp only; omega⟩
   · have : i = n := by simp at hf; omega
     subst this
     exact ⟨v, ha.weak ⟨V, trivial⟩, hl.done he hle f1 hp⟩
 · intro v w2 hg
   exact Af (Aa (Ac V V (Ah V V (Ae (AA fun a ha => Au V ha V hg)))))
theorem Ml {n0 p k : Nat} (h : BG n0 p 74 (.st .charMap) k) : DG n0 p 73 74 (.st .charMap) k := by
 intro s w hs hk
 obtain ⟨bytes, hei, hby⟩ : ∃ bytes, Ck prog 162 (Ty.size (.st .charMap)) bytes ∧ bytes ≤ 4096 := B7 (by kernel_rfl)
 have hp : p < w.heap.size := Nat.lt_of_lt_of_le hs.lp hs.ln
 refine AB 17 func73 V V V ?_
 refine Af (Aa (Ah V V (Ae (Af (Aa (Ah V V (Ae ?_)))))))
 refine B9 (ι := Value) (fun v => [(5, v)]) (fun v w' => Df n0 p (.list (.st .charMap)) s w v w') ?_ ?_
 · refine Af (Aa (Ac V V (Aj call54 V V (Kv hs) ?_ ?_)))
   rotate_left
   · rintro ch w1 ⟨rfl, hb, s', h1, f1, hn⟩ a ha
     exact Am (Am (Av ha ⟨rfl, CJ hb, s', h1, f1, Nat.le_of_eq hn.symm⟩))
   rintro _ w1 ⟨n, s1, he, hle, rfl, h1, f1, _⟩
   have hb25 := h1.sb
   have hnest := (BJ he).1
   refine Ac V V (Ae ?_)
   refine A1 (AW (ι := Nat × Value) (fun i => [(0, ptr p), (1, .func (.func 74) #[ptr p] #[]), (5, i.2), (7, .int .i64 ((n : Nat) : Int)), (8, .int .i64 ((i.1 : Nat) : Int))]) (fun i w' => i.1 ≤ n ∧ ∃ si, LSt n0 p (.st .charMap) 162 s1 w1 i.1 i.2 si w') (fun i => n - i.1) (0, .slice none 0 0)
    ⟨V, V, V, V, V, trivial⟩ ⟨Nat.zero_le _, _, LSt.start h1⟩ ?_)
   rintro ⟨i, v⟩ w2 ⟨hi, si, hl⟩
   simp only at hi hl ⊢
   refine Af (Aa (Al V V V V (Ae (Af ?_))))
   refine AK V (fun ht => A_ fun a ha => Ad ?_) (fun hf => AQ fun a ha => Aq (Aq (A3 (Ad ?_))))
   · have hlt : i < n := by simp at ht; omega
     refine A8 ha (Af (A1 (Aa (Ac V V (Ac V V (B8 V call74 V V (h si w2 hl.rst (hl.nest.trans (hnest.trans hk))) ?_ ?_))))))
     rotate_left
     · intro ch w3 hf a ha
       exact AD (Am (Am (AD (Am (Av ha (hl.bad he hlt f1 hp hf))))))
     intro x w3 hg
     obtain ⟨vb, w4, v', w5, s', hr1, hr2, hl'⟩ := hl.step (ty := 34) underlying34 hei hby (by decide) (by decide) hg (by omega)
     refine A7 V hr1 V (AU V V hr2 V (Ah V V (A2 fun a ha => Az (Ad ?_))))
     refine A8 ha (Aa (Al V V V V (Ac V V (A2 fun a ha => Ad ?_))))
     exact ⟨(i + 1, v'), ha.weak ⟨rfl, rfl, rfl, rfl, by show some _ = some _; rw [AS (by omega)], trivial⟩, ⟨hlt, _, hl'⟩, by simp only; omega⟩
   · have : i = n := by simp at hf; omega
     subst this
     exact ⟨v, ha.weak ⟨V, trivial⟩, hl.done he hle f1 hp⟩
 · intro v w2 hg
   exact Af (Aa (Ac V V (Ah V V (Ae (AA fun a ha => Au V ha V hg)))))
theorem OM {n0 p k : Nat} (h : BG n0 p 120 (.st .expr) k) : DG n0 p 119 120 (.st .expr) k := by
 intro s w hs hk
 obtain ⟨bytes, hei, hby⟩ : ∃ bytes, Ck prog 66 (Ty.size (.st .expr)) bytes ∧ bytes ≤ 4096 := B7 (by kernel_rfl)
 have hp : p < w.heap.size := Nat.lt_of_lt_of_le hs.lp hs.ln
 refine AB 17 func119 V V V ?_
 refine Af (Aa (Ah V V (Ae (Af (Aa (Ah V V (Ae ?_)))))))
 refine B9 (ι := Value) (fun v => [(5, v)]) (fun v w' => Df n0 p (.list (.st .expr)) s w v w') ?_ ?_
 · refine Af (Aa (Ac V V (Aj call54 V V (Kv hs) ?_ ?_)))
   rotate_left
   · rintro ch w1 ⟨rfl, hb, s', h1, f1, hn⟩ a ha
     exact Am (Am (Av ha ⟨rfl, CJ hb, s', h1, f1, Nat.le_of_eq hn.symm⟩))
   rintro _ w1 ⟨n, s1, he, hle, rfl, h1, f1, _⟩
   have hb25 := h1.sb
   have hnest := (BJ he).1
   refine Ac V V (Ae ?_)
   refine A1 (AW (ι := Nat × Value) (fun i => [(0, ptr p), (1, .func (.func 120) #[ptr p] #[]), (5, i.2), (7, .int .i64 ((n : Nat) : Int)), (8, .int .i64 ((i.1 : Nat) : Int))]) (fun i w' => i.1 ≤ n ∧ ∃ si, LSt n0 p (.st .expr) 66 s1 w1 i.1 i.2 si w') (fun i => n - i.1) (0, .slice none 0 0)
    ⟨V, V, V, V, V, trivial⟩ ⟨Nat.zero_le _, _, LSt.start h1⟩ ?_)
   rintro ⟨i, v⟩ w2 ⟨hi, si, hl⟩
   simp only at hi hl ⊢
   refine Af (Aa (Al V V V V (Ae (Af ?_))))
   refine AK V (fun ht => A_ fun a ha => Ad ?_) (fun hf => AQ fun a ha => Aq (Aq (A3 (Ad ?_))))
   · have hlt : i < n := by simp at ht; omega
     refine A8 ha (Af (A1 (Aa (Ac V V (Ac V V (B8 V call120 V V (h si w2 hl.rst (hl.nest.trans (hnest.trans hk))) ?_ ?_))))))
     rotate_left
     · intro ch w3 hf a ha
       exact AD (Am (Am (AD (Am (Av ha (hl.bad he hlt f1 hp hf))))))
     intro x w3 hg
     obtain ⟨vb, w4, v', w5, s', hr1, hr2, hl'⟩ := hl.step (ty := 64) underlying64 hei hby (by decide) (by decide) hg (by omega)
     refine A7 V hr1 V (AU V V hr2 V (Ah V V (A2 fun a ha => Az (Ad ?_))))
     refine A8 ha (Aa (Al V V V V (Ac V V (A2 fun a ha => Ad ?_))))
     exact ⟨(i + 1, v'), ha.weak ⟨rfl, rfl, rfl, rfl, by show some _ = some _; rw [AS (by omega)], trivial⟩, ⟨hlt, _, hl'⟩, by simp only; omega⟩
   · have : i = n := by simp at hf; omega
     subst this
     exact ⟨v, ha.weak ⟨V, trivial⟩, hl.done he hle f1 hp⟩
 · intro v w2 hg
   exact Af (Aa (Ac V V (Ah V V (Ae (AA fun a ha => Au V ha V hg)))))
theorem OS {n0 p k : Nat} (h : BG n0 p 56 (.str) k) : DG n0 p 121 56 (.str) k := by
 intro s w hs hk
 obtain ⟨bytes, hei, hby⟩ : ∃ bytes, Ck prog 9 (Ty.size (.str)) bytes ∧ bytes ≤ 4096 := B7 (by kernel_rfl)
 have hp : p < w.heap.size := Nat.lt_of_lt_of_le hs.lp hs.ln
 refine AB 17 func121 V V V ?_
 refine Af (Aa (Ah V V (Ae (Af (Aa (Ah V V (Ae ?_)))))))
 refine B9 (ι := Value) (fun v => [(5, v)]) (fun v w' => Df n0 p (.list (.str)) s w v w') ?_ ?_
 · refine Af (Aa (Ac V V (Aj call54 V V (Kv hs) ?_ ?_)))
   rotate_left
   · rintro ch w1 ⟨rfl, hb, s', h1, f1, hn⟩ a ha
     exact Am (Am (Av ha ⟨rfl, CJ hb, s', h1, f1, Nat.le_of_eq hn.symm⟩))
   rintro _ w1 ⟨n, s1, he, hle, rfl, h1, f1, _⟩
   have hb25 := h1.sb
   have hnest := (BJ he).1
   refine Ac V V (Ae ?_)
   refine A1 (AW (ι := Nat × Value) (fun i => [(0, ptr p), (1, .func (.func 56) #[ptr p] #[]), (5, i.2), (7, .int .i64 ((n : Nat) : Int)), (8, .int .i64 ((i.1 : Nat) : Int))]) (fun i w' => i.1 ≤ n ∧ ∃ si, LSt n0 p (.str) 9 s1 w1 i.1 i.2 si w') (fun i => n - i.1) (0, .slice none 0 0)
    ⟨V, V, V, V, V, trivial⟩ ⟨Nat.zero_le _, _, LSt.start h1⟩ ?_)
   rintro ⟨i, v⟩ w2 ⟨hi, si, hl⟩
   simp only at hi hl ⊢
   refine Af (Aa (Al V V V V (Ae (Af ?_))))
   refine AK V (fun ht => A_ fun a ha => Ad ?_) (fun hf => AQ fun a ha => Aq (Aq (A3 (Ad ?_))))
   · have hlt : i < n := by simp at ht; omega
     refine A8 ha (Af (A1 (Aa (Ac V V (Ac V V (B8 V call56 V V (h si w2 hl.rst (hl.nest.trans (hnest.trans hk))) ?_ ?_))))))
     rotate_left
     · intro ch w3 hf a ha
       exact AD (Am (Am (AD (Am (Av ha (hl.bad he hlt f1 hp hf))))))
     intro x w3 hg
     obtain ⟨vb, w4, v', w5, s', hr1, hr2, hl'⟩ := hl.step (ty := 44) underlying44 hei hby (by decide) (by decide) hg (by omega)
     refine A7 V hr1 V (AU V V hr2 V (Ah V V (A2 fun a ha => Az (Ad ?_))))
     refine A8 ha (Aa (Al V V V V (Ac V V (A2 fun a ha => Ad ?_))))
     exact ⟨(i + 1, v'), ha.weak ⟨rfl, rfl, rfl, rfl, by show some _ = some _; rw [AS (by omega)], trivial⟩, ⟨hlt, _, hl'⟩, by simp only; omega⟩
   · have : i = n := by simp at hf; omega
     subst this
     exact ⟨v, ha.weak ⟨V, trivial⟩, hl.done he hle f1 hp⟩
 · intro v w2 hg
   exact Af (Aa (Ac V V (Ah V V (Ae (AA fun a ha => Au V ha V hg)))))
theorem PF {n0 p k : Nat} (h : BG n0 p 123 (.st .param) k) : DG n0 p 122 123 (.st .param) k := by
 intro s w hs hk
 obtain ⟨bytes, hei, hby⟩ : ∃ bytes, Ck prog 216 (Ty.size (.st .param)) bytes ∧ bytes ≤ 4096 := B7 (by kernel_rfl)
 have hp : p < w.heap.size := Nat.lt_of_lt_of_le hs.lp hs.ln
 refine AB 17 func122 V V V ?_
 refine Af (Aa (Ah V V (Ae (Af (Aa (Ah V V (Ae ?_)))))))
 refine B9 (ι := Value) (fun v => [(5, v)]) (fun v w' => Df n0 p (.list (.st .param)) s w v w') ?_ ?_
 · refine Af (Aa (Ac V V (Aj call54 V V (Kv hs) ?_ ?_)))
   rotate_left
   · rintro ch w1 ⟨rfl, hb, s', h1, f1, hn⟩ a ha
     exact Am (Am (Av ha ⟨rfl, CJ hb, s', h1, f1, Nat.le_of_eq hn.symm⟩))
   rintro _ w1 ⟨n, s1, he, hle, rfl, h1, f1, _⟩
   have hb25 := h1.sb
   have hnest := (BJ he).1
   refine Ac V V (Ae ?_)
   refine A1 (AW (ι := Nat × Value) (fun i => [(0, ptr p), (1, .func (.func 123) #[ptr p] #[]), (5, i.2), (7, .int .i64 ((n : Nat) : Int)), (8, .int .i64 ((i.1 : Nat) : Int))]) (fun i w' => i.1 ≤ n ∧ ∃ si, LSt n0 p (.st .param) 216 s1 w1 i.1 i.2 si w') (fun i => n - i.1) (0, .slice none 0 0)
    ⟨V, V, V, V, V, trivial⟩ ⟨Nat.zero_le _, _, LSt.start h1⟩ ?_)
   rintro ⟨i, v⟩ w2 ⟨hi, si, hl⟩
   simp only at hi hl ⊢
   refine Af (Aa (Al V V V V (Ae (Af ?_))))
   refine AK V (fun ht => A_ fun a ha => Ad ?_) (fun hf => AQ fun a ha => Aq (Aq (A3 (Ad ?_))))
   · have hlt : i < n := by simp at ht; omega
     refine A8 ha (Af (A1 (Aa (Ac V V (Ac V V (B8 V call123 V V (h si w2 hl.rst (hl.nest.trans (hnest.trans hk))) ?_ ?_))))))
     rotate_left
     · intro ch w3 hf a ha
       exact AD (Am (Am (AD (Am (Av ha (hl.bad he hlt f1 hp hf))))))
     intro x w3 hg
     obtain ⟨vb, w4, v', w5, s', hr1, hr2, hl'⟩ := hl.step (ty := 68) underlying68 hei hby (by decide) (by decide) hg (by omega)
     refine A7 V hr1 V (AU V V hr2 V (Ah V V (A2 fun a ha => Az (Ad ?_))))
     refine A8 ha (Aa (Al V V V V (Ac V V (A2 fun a ha => Ad ?_))))
     exact ⟨(i + 1, v'), ha.weak ⟨rfl, rfl, rfl, rfl, by show some _ = some _; rw [AS (by omega)], trivial⟩, ⟨hlt, _, hl'⟩, by simp only; omega⟩
   · have : i = n := by simp at hf; omega
     subst this
     exact ⟨v, ha.weak ⟨V, trivial⟩, hl.done he hle f1 hp⟩
 · intro v w2 hg
   exact Af (Aa (Ac V V (Ah V V (Ae (AA fun a ha => Au V ha V hg)))))
theorem ND {n0 p k : Nat} (h : BG n0 p 125 (.st .instr) k) : DG n0 p 124 125 (.st .instr) k := by
 intro s w hs hk
 obtain ⟨bytes, hei, hby⟩ : ∃ bytes, Ck prog 72 (Ty.size (.st .instr)) bytes ∧ bytes ≤ 4096 := B7 (by kernel_rfl)
 have hp : p < w.heap.size := Nat.lt_of_lt_of_le hs.lp hs.ln
 refine AB 17 func124 V V V ?_
 refine Af (Aa (Ah V V (Ae (Af (Aa (Ah V V (Ae ?_)))))))
 refine B9 (ι := Value) (fun v => [(5, v)]) (fun v w' => Df n0 p (.list (.st .instr)) s w v w') ?_ ?_
 · refine Af (Aa (Ac V V (Aj call54 V V (Kv hs) ?_ ?_)))
   rotate_left
   · rintro ch w1 ⟨rfl, hb, s', h1, f1, hn⟩ a ha
     exact Am (Am (Av ha ⟨rfl, CJ hb, s', h1, f1, Nat.le_of_eq hn.symm⟩))
   rintro _ w1 ⟨n, s1, he, hle, rfl, h1, f1, _⟩
   have hb25 := h1.sb
   have hnest := (BJ he).1
   refine Ac V V (Ae ?_)
   refine A1 (AW (ι := Nat × Value) (fun i => [(0, ptr p), (1, .func (.func 125) #[ptr p] #[]), (5, i.2), (7, .int .i64 ((n : Nat) : Int)), (8, .int .i64 ((i.1 : Nat) : Int))]) (fun i w' => i.1 ≤ n ∧ ∃ si, LSt n0 p (.st .instr) 72 s1 w1 i.1 i.2 si w') (fun i => n - i.1) (0, .slice none 0 0)
    ⟨V, V, V, V, V, trivial⟩ ⟨Nat.zero_le _, _, LSt.start h1⟩ ?_)
   rintro ⟨i, v⟩ w2 ⟨hi, si, hl⟩
   simp only at hi hl ⊢
   refine Af (Aa (Al V V V V (Ae (Af ?_))))
   refine AK V (fun ht => A_ fun a ha => Ad ?_) (fun hf => AQ fun a ha => Aq (Aq (A3 (Ad ?_))))
   · have hlt : i < n := by simp at ht; omega
     refine A8 ha (Af (A1 (Aa (Ac V V (Ac V V (B8 V call125 V V (h si w2 hl.rst (hl.nest.trans (hnest.trans hk))) ?_ ?_))))))
     rotate_left
     · intro ch w3 hf a ha
       exact AD (Am (Am (AD (Am (Av ha (hl.bad he hlt f1 hp hf))))))
     intro x w3 hg
     obtain ⟨vb, w4, v', w5, s', hr1, hr2, hl'⟩ := hl.step (ty := 56) underlying56 hei hby (by decide) (by decide) hg (by omega)
     refine A7 V hr1 V (AU V V hr2 V (Ah V V (A2 fun a ha => Az (Ad ?_))))
     refine A8 ha (Aa (Al V V V V (Ac V V (A2 fun a ha => Ad ?_))))
     exact ⟨(i + 1, v'), ha.weak ⟨rfl, rfl, rfl, rfl, by show some _ = some _; rw [AS (by omega)], trivial⟩, ⟨hlt, _, hl'⟩, by simp only; omega⟩
   · have : i = n := by simp at hf; omega
     subst this
     exact ⟨v, ha.weak ⟨V, trivial⟩, hl.done he hle f1 hp⟩
 · intro v w2 hg
   exact Af (Aa (Ac V V (Ah V V (Ae (AA fun a ha => Au V ha V hg)))))
theorem QK {n0 p k : Nat} (h : BG n0 p 128 (.st .rule) k) : DG n0 p 127 128 (.st .rule) k := by
 intro s w hs hk
 obtain ⟨bytes, hei, hby⟩ : ∃ bytes, Ck prog 182 (Ty.size (.st .rule)) bytes ∧ bytes ≤ 4096 := B7 (by kernel_rfl)
 have hp : p < w.heap.size := Nat.lt_of_lt_of_le hs.lp hs.ln
 refine AB 17 func127 V V V ?_
 refine Af (Aa (Ah V V (Ae (Af (Aa (Ah V V (Ae ?_)))))))
 refine B9 (ι := Value) (fun v => [(5, v)]) (fun v w' => Df n0 p (.list (.st .rule)) s w v w') ?_ ?_
 · refine Af (Aa (Ac V V (Aj call54 V V (Kv hs) ?_ ?_)))
   rotate_left
   · rintro ch w1 ⟨rfl, hb, s', h1, f1, hn⟩ a ha
     exact Am (Am (Av ha ⟨rfl, CJ hb, s', h1, f1, Nat.le_of_eq hn.symm⟩))
   rintro _ w1 ⟨n, s1, he, hle, rfl, h1, f1, _⟩
   have hb25 := h1.sb
   have hnest := (BJ he).1
   refine Ac V V (Ae ?_)
   refine A1 (AW (ι := Nat × Value) (fun i => [(0, ptr p), (1, .func (.func 128) #[ptr p] #[]), (5, i.2), (7, .int .i64 ((n : Nat) : Int)), (8, .int .i64 ((i.1 : Nat) : Int))]) (fun i w' => i.1 ≤ n ∧ ∃ si, LSt n0 p (.st .rule) 182 s1 w1 i.1 i.2 si w') (fun i => n - i.1) (0, .slice none 0 0)
    ⟨V, V, V, V, V, trivial⟩ ⟨Nat.zero_le _, _, LSt.start h1⟩ ?_)
   rintro ⟨i, v⟩ w2 ⟨hi, si, hl⟩
   simp only at hi hl ⊢
   refine Af (Aa (Al V V V V (Ae (Af ?_))))
   refine AK V (fun ht => A_ fun a ha => Ad ?_) (fun hf => AQ fun a ha => Aq (Aq (A3 (Ad ?_))))
   · have hlt : i < n := by simp at ht; omega
     refine A8 ha (Af (A1 (Aa (Ac V V (Ac V V (B8 V call128 V V (h si w2 hl.rst (hl.nest.trans (hnest.trans hk))) ?_ ?_))))))
     rotate_left
     · intro ch w3 hf a ha
       exact AD (Am (Am (AD (Am (Av ha (hl.bad he hlt f1 hp hf))))))
     intro x w3 hg
     obtain ⟨vb, w4, v', w5, s', hr1, hr2, hl'⟩ := hl.step (ty := 149) underlying149 hei hby (by decide) (by decide) hg (by omega)
     refine A7 V hr1 V (AU V V hr2 V (Ah V V (A2 fun a ha => Az (Ad ?_))))
     refine A8 ha (Aa (Al V V V V (Ac V V (A2 fun a ha => Ad ?_))))
     exact ⟨(i + 1, v'), ha.weak ⟨rfl, rfl, rfl, rfl, by show some _ = some _; rw [AS (by omega)], trivial⟩, ⟨hlt, _, hl'⟩, by simp only; omega⟩
   · have : i = n := by simp at hf; omega
     subst this
     exact ⟨v, ha.weak ⟨V, trivial⟩, hl.done he hle f1 hp⟩
 · intro v w2 hg
   exact Af (Aa (Ac V V (Ah V V (Ae (AA fun a ha => Au V ha V hg)))))
theorem Lk {n0 p k : Nat} (h : BG n0 p 130 (.st .swap) k) : DG n0 p 129 130 (.st .swap) k := by
 intro s w hs hk
 obtain ⟨bytes, hei, hby⟩ : ∃ bytes, Ck prog 170 (Ty.size (.st .swap)) bytes ∧ bytes ≤ 4096 := B7 (by kernel_rfl)
 have hp : p < w.heap.size := Nat.lt_of_lt_of_le hs.lp hs.ln
 refine AB 17 func129 V V V ?_
 refine Af (Aa (Ah V V (Ae (Af (Aa (Ah V V (Ae ?_)))))))
 refine B9 (ι := Value) (fun v => [(5, v)]) (fun v w' => Df n0 p (.list (.st .swap)) s w v w') ?_ ?_
 · refine Af (Aa (Ac V V (Aj call54 V V (Kv hs) ?_ ?_)))
   rotate_left
   · rintro ch w1 ⟨rfl, hb, s', h1, f1, hn⟩ a ha
     exact Am (Am (Av ha ⟨rfl, CJ hb, s', h1, f1, Nat.le_of_eq hn.symm⟩))
   rintro _ w1 ⟨n, s1, he, hle, rfl, h1, f1, _⟩
   have hb25 := h1.sb
   have hnest := (BJ he).1
   refine Ac V V (Ae ?_)
   refine A1 (AW (ι := Nat × Value) (fun i => [(0, ptr p), (1, .func (.func 130) #[ptr p] #[]), (5, i.2), (7, .int .i64 ((n : Nat) : Int)), (8, .int .i64 ((i.1 : Nat) : Int))]) (fun i w' => i.1 ≤ n ∧ ∃ si, LSt n0 p (.st .swap) 170 s1 w1 i.1 i.2 si w') (fun i => n - i.1) (0, .slice none 0 0)
    ⟨V, V, V, V, V, trivial⟩ ⟨Nat.zero_le _, _, LSt.start h1⟩ ?_)
   rintro ⟨i, v⟩ w2 ⟨hi, si, hl⟩
   simp only at hi hl ⊢
   refine Af (Aa (Al V V V V (Ae (Af ?_))))
   refine AK V (fun ht => A_ fun a ha => Ad ?_) (fun hf => AQ fun a ha => Aq (Aq (A3 (Ad ?_))))
   · have hlt : i < n := by simp at ht; omega
     refine A8 ha (Af (A1 (Aa (Ac V V (Ac V V (B8 V call130 V V (h si w2 hl.rst (hl.nest.trans (hnest.trans hk))) ?_ ?_))))))
     rotate_left
     · intro ch w3 hf a ha
       exact AD (Am (Am (AD (Am (Av ha (hl.bad he hlt f1 hp hf))))))
     intro x w3 hg
     obtain ⟨vb, w4, v', w5, s', hr1, hr2, hl'⟩ := hl.step (ty := 160) underlying160 hei hby (by decide) (by decide) hg (by omega)
     refine A7 V hr1 V (AU V V hr2 V (Ah V V (A2 fun a ha => Az (Ad ?_))))
     refine A8 ha (Aa (Al V V V V (Ac V V (A2 fun a ha => Ad ?_))))
     exact ⟨(i + 1, v'), ha.weak ⟨rfl, rfl, rfl, rfl, by show some _ = some _; rw [AS (by omega)], trivial⟩, ⟨hlt, _, hl'⟩, by simp only; omega⟩
   · have : i = n := by simp at hf; omega
     subst this
     exact ⟨v, ha.weak ⟨V, trivial⟩, hl.done he hle f1 hp⟩
 · intro v w2 hg
   exact Af (Aa (Ac V V (Ah V V (Ae (AA fun a ha => Au V ha V hg)))))
theorem Q3 {n0 p k : Nat} (h : BG n0 p 191 (.st .part) k) : DG n0 p 190 191 (.st .part) k := by
 intro s w hs hk
 obtain ⟨bytes, hei, hby⟩ : ∃ bytes, Ck prog 282 (Ty.size (.st .part)) bytes ∧ bytes ≤ 4096 := B7 (by kernel_rfl)
 have hp : p < w.heap.size := Nat.lt_of_lt_of_le hs.lp hs.ln
 refine AB 17 func190 V V V ?_
 refine Af (Aa (Ah V V (Ae (Af (Aa (Ah V V (Ae ?_)))))))
 refine B9 (ι := Value) (fun v => [(5, v)]) (fun v w' => Df n0 p (.list (.st .part)) s w v w') ?_ ?_
 · refine Af (Aa (Ac V V (Aj call54 V V (Kv hs) ?_ ?_)))
   rotate_left
   · rintro ch w1 ⟨rfl, hb, s', h1, f1, hn⟩ a ha
     exact Am (Am (Av ha ⟨rfl, CJ hb, s', h1, f1, Nat.le_of_eq hn.symm⟩))
   rintro _ w1 ⟨n, s1, he, hle, rfl, h1, f1, _⟩
   have hb25 := h1.sb
   have hnest := (BJ he).1
   refine Ac V V (Ae ?_)
   refine A1 (AW (ι := Nat × Value) (fun i => [(0, ptr p), (1, .func (.func 191) #[ptr p] #[]), (5, i.2), (7, .int .i64 ((n : Nat) : Int)), (8, .int .i64 ((i.1 : Nat) : Int))]) (fun i w' => i.1 ≤ n ∧ ∃ si, LSt n0 p (.st .part) 282 s1 w1 i.1 i.2 si w') (fun i => n - i.1) (0, .slice none 0 0)
    ⟨V, V, V, V, V, trivial⟩ ⟨Nat.zero_le _, _, LSt.start h1⟩ ?_)
   rintro ⟨i, v⟩ w2 ⟨hi, si, hl⟩
   simp only at hi hl ⊢
   refine Af (Aa (Al V V V V (Ae (Af ?_))))
   refine AK V (fun ht => A_ fun a ha => Ad ?_) (fun hf => AQ fun a ha => Aq (Aq (A3 (Ad ?_))))
   · have hlt : i < n := by simp at ht; omega
     refine A8 ha (Af (A1 (Aa (Ac V V (Ac V V (B8 V call191 V V (h si w2 hl.rst (hl.nest.trans (hnest.trans hk))) ?_ ?_))))))
     rotate_left
     · intro ch w3 hf a ha
       exact AD (Am (Am (AD (Am (Av ha (hl.bad he hlt f1 hp hf))))))
     intro x w3 hg
     obtain ⟨vb, w4, v', w5, s', hr1, hr2, hl'⟩ := hl.step (ty := 57) underlying57 hei hby (by decide) (by decide) hg (by omega)
     refine A7 V hr1 V (AU V V hr2 V (Ah V V (A2 fun a ha => Az (Ad ?_))))
     refine A8 ha (Aa (Al V V V V (Ac V V (A2 fun a ha => Ad ?_))))
     exact ⟨(i + 1, v'), ha.weak ⟨rfl, rfl, rfl, rfl, by show some _ = some _; rw [AS (by omega)], trivial⟩, ⟨hlt, _, hl'⟩, by simp only; omega⟩
   · have : i = n := by simp at hf; omega
     subst this
     exact ⟨v, ha.weak ⟨V, trivial⟩, hl.done he hle f1 hp⟩
 · intro v w2 hg
   exact Af (Aa (Ac V V (Ah V V (Ae (AA fun a ha => Au V ha V hg)))))
theorem Qg {n0 p k : Nat} (h : BG n0 p 193 (.st .sort) k) : DG n0 p 192 193 (.st .sort) k := by
 intro s w hs hk
 obtain ⟨bytes, hei, hby⟩ : ∃ bytes, Ck prog 286 (Ty.size (.st .sort)) bytes ∧ bytes ≤ 4096 := B7 (by kernel_rfl)
 have hp : p < w.heap.size := Nat.lt_of_lt_of_le hs.lp hs.ln
 refine AB 17 func192 V V V ?_
 refine Af (Aa (Ah V V (Ae (Af (Aa (Ah V V (Ae ?_)))))))
 refine B9 (ι := Value) (fun v => [(5, v)]) (fun v w' => Df n0 p (.list (.st .sort)) s w v w') ?_ ?_
 · refine Af (Aa (Ac V V (Aj call54 V V (Kv hs) ?_ ?_)))
   rotate_left
   · rintro ch w1 ⟨rfl, hb, s', h1, f1, hn⟩ a ha
     exact Am (Am (Av ha ⟨rfl, CJ hb, s', h1, f1, Nat.le_of_eq hn.symm⟩))
   rintro _ w1 ⟨n, s1, he, hle, rfl, h1, f1, _⟩
   have hb25 := h1.sb
   have hnest := (BJ he).1
   refine Ac V V (Ae ?_)
   refine A1 (AW (ι := Nat × Value) (fun i => [(0, ptr p), (1, .func (.func 193) #[ptr p] #[]), (5, i.2), (7, .int .i64 ((n : Nat) : Int)), (8, .int .i64 ((i.1 : Nat) : Int))]) (fun i w' => i.1 ≤ n ∧ ∃ si, LSt n0 p (.st .sort) 286 s1 w1 i.1 i.2 si w') (fun i => n - i.1) (0, .slice none 0 0)
    ⟨V, V, V, V, V, trivial⟩ ⟨Nat.zero_le _, _, LSt.start h1⟩ ?_)
   rintro ⟨i, v⟩ w2 ⟨hi, si, hl⟩
   simp only at hi hl ⊢
   refine Af (Aa (Al V V V V (Ae (Af ?_))))
   refine AK V (fun ht => A_ fun a ha => Ad ?_) (fun hf => AQ fun a ha => Aq (Aq (A3 (Ad ?_))))
   · have hlt : i < n := by simp at ht; omega
     refine A8 ha (Af (A1 (Aa (Ac V V (Ac V V (B8 V call193 V V (h si w2 hl.rst (hl.nest.trans (hnest.trans hk))) ?_ ?_))))))
     rotate_left
     · intro ch w3 hf a ha
       exact AD (Am (Am (AD (Am (Av ha (hl.bad he hlt f1 hp hf))))))
     intro x w3 hg
     obtain ⟨vb, w4, v', w5, s', hr1, hr2, hl'⟩ := hl.step (ty := 67) underlying67 hei hby (by decide) (by decide) hg (by omega)
     refine A7 V hr1 V (AU V V hr2 V (Ah V V (A2 fun a ha => Az (Ad ?_))))
     refine A8 ha (Aa (Al V V V V (Ac V V (A2 fun a ha => Ad ?_))))
     exact ⟨(i + 1, v'), ha.weak ⟨rfl, rfl, rfl, rfl, by show some _ = some _; rw [AS (by omega)], trivial⟩, ⟨hlt, _, hl'⟩, by simp only; omega⟩
   · have : i = n := by simp at hf; omega
     subst this
     exact ⟨v, ha.weak ⟨V, trivial⟩, hl.done he hle f1 hp⟩
 · intro v w2 hg
   exact Af (Aa (Ac V V (Ah V V (Ae (AA fun a ha => Au V ha V hg)))))
theorem Q7 {n0 p k : Nat} (h : BG n0 p 195 (.st .source) k) : DG n0 p 194 195 (.st .source) k := by
 intro s w hs hk
 obtain ⟨bytes, hei, hby⟩ : ∃ bytes, Ck prog 290 (Ty.size (.st .source)) bytes ∧ bytes ≤ 4096 := B7 (by kernel_rfl)
 have hp : p < w.heap.size := Nat.lt_of_lt_of_le hs.lp hs.ln
 refine AB 17 func194 V V V ?_
 refine Af (Aa (Ah V V (Ae (Af (Aa (Ah V V (Ae ?_)))))))
 refine B9 (ι := Value) (fun v => [(5, v)]) (fun v w' => Df n0 p (.list (.st .source)) s w v w') ?_ ?_
 · refine Af (Aa (Ac V V (Aj call54 V V (Kv hs) ?_ ?_)))
   rotate_left
   · rintro ch w1 ⟨rfl, hb, s', h1, f1, hn⟩ a ha
     exact Am (Am (Av ha ⟨rfl, CJ hb, s', h1, f1, Nat.le_of_eq hn.symm⟩))
   rintro _ w1 ⟨n, s1, he, hle, rfl, h1, f1, _⟩
   have hb25 := h1.sb
   have hnest := (BJ he).1
   refine Ac V V (Ae ?_)
   refine A1 (AW (ι := Nat × Value) (fun i => [(0, ptr p), (1, .func (.func 195) #[ptr p] #[]), (5, i.2), (7, .int .i64 ((n : Nat) : Int)), (8, .int .i64 ((i.1 : Nat) : Int))]) (fun i w' => i.1 ≤ n ∧ ∃ si, LSt n0 p (.st .source) 290 s1 w1 i.1 i.2 si w') (fun i => n - i.1) (0, .slice none 0 0)
    ⟨V, V, V, V, V, trivial⟩ ⟨Nat.zero_le _, _, LSt.start h1⟩ ?_)
   rintro ⟨i, v⟩ w2 ⟨hi, si, hl⟩
   simp only at hi hl ⊢
   refine Af (Aa (Al V V V V (Ae (Af ?_))))
   refine AK V (fun ht => A_ fun a ha => Ad ?_) (fun hf => AQ fun a ha => Aq (Aq (A3 (Ad ?_))))
   · have hlt : i < n := by simp at ht; omega
     refine A8 ha (Af (A1 (Aa (Ac V V (Ac V V (B8 V call195 V V (h si w2 hl.rst (hl.nest.trans (hnest.trans hk))) ?_ ?_))))))
     rotate_left
     · intro ch w3 hf a ha
       exact AD (Am (Am (AD (Am (Av ha (hl.bad he hlt f1 hp hf))))))
     intro x w3 hg
     obtain ⟨vb, w4, v', w5, s', hr1, hr2, hl'⟩ := hl.step (ty := 69) underlying69 hei hby (by decide) (by decide) hg (by omega)
     refine A7 V hr1 V (AU V V hr2 V (Ah V V (A2 fun a ha => Az (Ad ?_))))
     refine A8 ha (Aa (Al V V V V (Ac V V (A2 fun a ha => Ad ?_))))
     exact ⟨(i + 1, v'), ha.weak ⟨rfl, rfl, rfl, rfl, by show some _ = some _; rw [AS (by omega)], trivial⟩, ⟨hlt, _, hl'⟩, by simp only; omega⟩
   · have : i = n := by simp at hf; omega
     subst this
     exact ⟨v, ha.weak ⟨V, trivial⟩, hl.done he hle f1 hp⟩
 · intro v w2 hg
   exact Af (Aa (Ac V V (Ah V V (Ae (AA fun a ha => Au V ha V hg)))))
theorem Ri {n0 p k : Nat} (h : BG n0 p 197 (.st .ctch) k) : DG n0 p 196 197 (.st .ctch) k := by
 intro s w hs hk
 obtain ⟨bytes, hei, hby⟩ : ∃ bytes, Ck prog 294 (Ty.size (.st .ctch)) bytes ∧ bytes ≤ 4096 := B7 (by kernel_rfl)
 have hp : p < w.heap.size := Nat.lt_of_lt_of_le hs.lp hs.ln
 refine AB 17 func196 V V V ?_
 refine Af (Aa (Ah V V (Ae (Af (Aa (Ah V V (Ae ?_)))))))
 refine B9 (ι := Value) (fun v => [(5, v)]) (fun v w' => Df n0 p (.list (.st .ctch)) s w v w') ?_ ?_
 · refine Af (Aa (Ac V V (Aj call54 V V (Kv hs) ?_ ?_)))
   rotate_left
   · rintro ch w1 ⟨rfl, hb, s', h1, f1, hn⟩ a ha
     exact Am (Am (Av ha ⟨rfl, CJ hb, s', h1, f1, Nat.le_of_eq hn.symm⟩))
   rintro _ w1 ⟨n, s1, he, hle, rfl, h1, f1, _⟩
   have hb25 := h1.sb
   have hnest := (BJ he).1
   refine Ac V V (Ae ?_)
   refine A1 (AW (ι := Nat × Value) (fun i => [(0, ptr p), (1, .func (.func 197) #[ptr p] #[]), (5, i.2), (7, .int .i64 ((n : Nat) : Int)), (8, .int .i64 ((i.1 : Nat) : Int))]) (fun i w' => i.1 ≤ n ∧ ∃ si, LSt n0 p (.st .ctch) 294 s1 w1 i.1 i.2 si w') (fun i => n - i.1) (0, .slice none 0 0)
    ⟨V, V, V, V, V, trivial⟩ ⟨Nat.zero_le _, _, LSt.start h1⟩ ?_)
   rintro ⟨i, v⟩ w2 ⟨hi, si, hl⟩
   simp only at hi hl ⊢
   refine Af (Aa (Al V V V V (Ae (Af ?_))))
   refine AK V (fun ht => A_ fun a ha => Ad ?_) (fun hf => AQ fun a ha => Aq (Aq (A3 (Ad ?_))))
   · have hlt : i < n := by simp at ht; omega
     refine A8 ha (Af (A1 (Aa (Ac V V (Ac V V (B8 V call197 V V (h si w2 hl.rst (hl.nest.trans (hnest.trans hk))) ?_ ?_))))))
     rotate_left
     · intro ch w3 hf a ha
       exact AD (Am (Am (AD (Am (Av ha (hl.bad he hlt f1 hp hf))))))
     intro x w3 hg
     obtain ⟨vb, w4, v', w5, s', hr1, hr2, hl'⟩ := hl.step (ty := 70) underlying70 hei hby (by decide) (by decide) hg (by omega)
     refine A7 V hr1 V (AU V V hr2 V (Ah V V (A2 fun a ha => Az (Ad ?_))))
     refine A8 ha (Aa (Al V V V V (Ac V V (A2 fun a ha => Ad ?_))))
     exact ⟨(i + 1, v'), ha.weak ⟨rfl, rfl, rfl, rfl, by show some _ = some _; rw [AS (by omega)], trivial⟩, ⟨hlt, _, hl'⟩, by simp only; omega⟩
   · have : i = n := by simp at hf; omega
     subst this
     exact ⟨v, ha.weak ⟨V, trivial⟩, hl.done he hle f1 hp⟩
 · intro v w2 hg
   exact Af (Aa (Ac V V (Ah V V (Ae (AA fun a ha => Au V ha V hg)))))
theorem R3 {n0 p k : Nat} (h : BG n0 p 118 (.int) k) : DG n0 p 241 118 (.int) k := by
 intro s w hs hk
 obtain ⟨bytes, hei, hby⟩ : ∃ bytes, Ck prog 3 (Ty.size (.int)) bytes ∧ bytes ≤ 4096 := B7 (by kernel_rfl)
 have hp : p < w.heap.size := Nat.lt_of_lt_of_le hs.lp hs.ln
 refine AB 17 func241 V V V ?_
 refine Af (Aa (Ah V V (Ae (Af (Aa (Ah V V (Ae ?_)))))))
 refine B9 (ι := Value) (fun v => [(5, v)]) (fun v w' => Df n0 p (.list (.int)) s w v w') ?_ ?_
 · refine Af (Aa (Ac V V (Aj call54 V V (Kv hs) ?_ ?_)))
   rotate_left
   · rintro ch w1 ⟨rfl, hb, s', h1, f1, hn⟩ a ha
     exact Am (Am (Av ha ⟨rfl, CJ hb, s', h1, f1, Nat.le_of_eq hn.symm⟩))
   rintro _ w1 ⟨n, s1, he, hle, rfl, h1, f1, _⟩
   have hb25 := h1.sb
   have hnest := (BJ he).1
   refine Ac V V (Ae ?_)
   refine A1 (AW (ι := Nat × Value) (fun i => [(0, ptr p), (1, .func (.func 118) #[ptr p] #[]), (5, i.2), (7, .int .i64 ((n : Nat) : Int)), (8, .int .i64 ((i.1 : Nat) : Int))]) (fun i w' => i.1 ≤ n ∧ ∃ si, LSt n0 p (.int) 3 s1 w1 i.1 i.2 si w') (fun i => n - i.1) (0, .slice none 0 0)
    ⟨V, V, V, V, V, trivial⟩ ⟨Nat.zero_le _, _, LSt.start h1⟩ ?_)
   rintro ⟨i, v⟩ w2 ⟨hi, si, hl⟩
   simp only at hi hl ⊢
   refine Af (Aa (Al V V V V (Ae (Af ?_))))
   refine AK V (fun ht => A_ fun a ha => Ad ?_) (fun hf => AQ fun a ha => Aq (Aq (A3 (Ad ?_))))
   · have hlt : i < n := by simp at ht; omega
     refine A8 ha (Af (A1 (Aa (Ac V V (Ac V V (B8 V call118 V V (h si w2 hl.rst (hl.nest.trans (hnest.trans hk))) ?_ ?_))))))
     rotate_left
     · intro ch w3 hf a ha
       exact AD (Am (Am (AD (Am (Av ha (hl.bad he hlt f1 hp hf))))))
     intro x w3 hg
     obtain ⟨vb, w4, v', w5, s', hr1, hr2, hl'⟩ := hl.step (ty := 262) underlying262 hei hby (by decide) (by decide) hg (by omega)
     refine A7 V hr1 V (AU V V hr2 V (Ah V V (A2 fun a ha => Az (Ad ?_))))
     refine A8 ha (Aa (Al V V V V (Ac V V (A2 fun a ha => Ad ?_))))
     exact ⟨(i + 1, v'), ha.weak ⟨rfl, rfl, rfl, rfl, by show some _ = some _; rw [AS (by omega)], trivial⟩, ⟨hlt, _, hl'⟩, by simp only; omega⟩
   · have : i = n := by simp at hf; omega
     subst this
     exact ⟨v, ha.weak ⟨V, trivial⟩, hl.done he hle f1 hp⟩
 · intro v w2 hg
   exact Af (Aa (Ac V V (Ah V V (Ae (AA fun a ha => Au V ha V hg)))))
end Go.Sx
namespace Go.Sx
open Go.Proofs Go.Proofs.Tryz
def RepC (w : World) (S : Nat → Prop) : List T → List Ty → List (List Value) → Prop
 | [], [], [] => True
 | t :: l, f :: fs, c :: cs => Rep w S t f c ∧ RepC w S l fs cs
 | _, _, _ => False
theorem RepC.agree {w w' : World} {S S' : Nat → Prop} (hS : ∀ b, S b → b < w.heap.size → S' b ∧ b < w'.heap.size ∧ w'.heap[b]? = w.heap[b]?) : ∀ {l : List T} {fs : List Ty} {cs : List (List Value)}, RepC w S l fs cs → RepC w' S' l fs cs
 | [], [], [], _ => trivial
 | _t :: _l, _f :: _fs, _c :: _cs, h => ⟨Rep.agree hS _ _ _ h.1, RepC.agree hS h.2⟩
 | [], [], _ :: _, h => h.elim
 | [], _ :: _, _, h => h.elim
 | _ :: _, [], _, h => h.elim
 | _ :: _, _ :: _, [], h => h.elim
theorem RepC.snoc {w : World} {S : Nat → Prop} {t : T} {f : Ty} {c : List Value} (ht : Rep w S t f c) : ∀ {l : List T} {fs : List Ty} {cs : List (List Value)}, RepC w S l fs cs → RepC w S (l ++ [t]) (fs ++ [f]) (cs ++ [c])
 | [], [], [], _ => ⟨ht, trivial⟩
 | _x :: _l, _g :: _fs, _y :: _cs, h => ⟨h.1, RepC.snoc ht h.2⟩
 | [], [], _ :: _, h => h.elim
 | [], _ :: _, _, h => h.elim
 | _ :: _, [], _, h => h.elim
 | _ :: _, _ :: _, [], h => h.elim
theorem EQ {w : World} {S : Nat → Prop} : ∀ {l : List T} {fs : List Ty} {cs : List (List Value)} (pre : List Value), RepC w S l fs cs → RepF w S l fs pre.length (pre ++ cs.flatten)
 | [], [], [], pre, _ => by simp only [RepF]
 | t :: l, f :: fs, c :: cs, pre, h => by
  have h1 := (Rep.one _ _ _ h.1).1
  simp only [RepF, List.flatten_cons]
  refine ⟨?_, ?_⟩
  · have : ((pre ++ (c ++ cs.flatten)).drop pre.length).take f.size = c := by
     rw [List.drop_left, ← h1, List.take_left]
    rw [this]; exact h.1
  · have := EQ (pre ++ c) h.2
    rw [List.length_append, h1, List.append_assoc] at this
    exact this
 | [], [], _ :: _, _, h => h.elim
 | [], _ :: _, _, _, h => h.elim
 | _ :: _, [], _, _, h => h.elim
 | _ :: _, _ :: _, [], _, h => h.elim
theorem RepC.size {w : World} {S : Nat → Prop} : ∀ {l : List T} {fs : List Ty} {cs : List (List Value)}, RepC w S l fs cs → cs.map List.length = fs.map Ty.size
 | [], [], [], _ => rfl
 | t :: l, f :: fs, c :: cs, h => by
  have h1 := (Rep.one _ _ _ h.1).1
  simp only [List.map_cons, h1, RepC.size h.2]
 | [], [], _ :: _, h => h.elim
 | [], _ :: _, _, h => h.elim
 | _ :: _, [], _, h => h.elim
 | _ :: _, _ :: _, [], h => h.elim
def CN : List Nat → List Value → List (List Value)
 | [], _ => []
 | n :: ns, cs => cs.take n :: CN ns (cs.drop n)
def Cy : List Nat → Nat
 | [] => 0
 | n :: ns => n + Cy ns
theorem IB : ∀ (ns : List Nat) (cs : List Value), cs.length = Cy ns → (CN ns cs).flatten = cs
 | [], cs, h => by simp [CN]; exact List.eq_nil_of_length_eq_zero h
 | n :: ns, cs, h => by
  simp only [Cy] at h
  simp only [CN, List.flatten_cons, IB ns (cs.drop n) (by simp; omega), List.take_append_drop]
theorem Lo : ∀ (ns : List Nat) (cs : List Value), cs.length = Cy ns → (CN ns cs).map List.length = ns
 | [], cs, h => rfl
 | n :: ns, cs, h => by
  simp only [Cy] at h
  simp only [CN, List.map_cons, Lo ns (cs.drop n) (by simp; omega), List.length_take]
  rw [Nat.min_eq_left (by omega)]
theorem C1 : ∀ (cs : List (List Value)) (ns : List Nat) (j : Nat) (c : List Value), cs.map List.length = ns → ns[j]? = some c.length → Ch cs.flatten (Cy (ns.take j)) c = (cs.set j c).flatten ∧ (cs.set j c).map List.length = ns ∧ Cy (ns.take j) + c.length ≤ cs.flatten.length
 | [], _, j, c, h, hj => by subst h; simp at hj
 | d :: cs, ns, 0, c, h, hj => by
  subst h
  simp only [List.map_cons, List.getElem?_cons_zero, Option.some.injEq] at hj
  simp only [List.take_zero, Cy, List.set_cons_zero, List.flatten_cons, List.map_cons, hj, Ch, Nat.zero_add, List.nil_append, List.length_append]
  refine ⟨?_, trivial, by omega⟩
  rw [← hj, List.drop_left]
 | d :: cs, ns, j + 1, c, h, hj => by
  subst h
  simp only [List.map_cons, List.getElem?_cons_succ] at hj
  obtain ⟨e1, e2, e3⟩ := C1 cs _ j c rfl hj
  simp only [List.map_cons, List.take_succ_cons, Cy, List.set_cons_succ, List.flatten_cons, e2, List.length_append]
  refine ⟨?_, trivial, by omega⟩
  rw [← e1]
  simp only [Ch]
  rw [List.take_append, List.drop_append]
  have h1 : d.take (d.length + Cy (List.take j (cs.map List.length))) = d := List.take_of_length_le (by omega)
  have h2 : d.drop (d.length + Cy (List.take j (cs.map List.length)) + c.length) = [] := List.drop_eq_nil_of_le (by omega)
  rw [h1, h2]
  simp only [List.append_assoc, List.nil_append, Nat.add_sub_cancel_left]
  congr 3
  congr 1
  omega
structure MSt (n0 p c tid : Nat) (sz : List Nat) (fs : List Ty) (wz w0 : World) (s0 : RS) (cells chunks : List (List Value)) (s : RS) (w : World) : Prop where
 rst : RSt n0 p s w
 fr : Fr (only p) w0 (fun b => b = p ∨ w0.heap.size ≤ b) w
 c0 : w0.heap.size ≤ c
 blk : Blk w c chunks.flatten tid
 len : chunks.map List.length = sz
 rep : ∃ l, RepC w (fun b => w0.heap.size ≤ b ∧ b ≠ c) l fs cells ∧ BT l fs s0 = some s
 base : n0 ≤ w0.heap.size
 nest : s.nest = s0.nest
 also : ∀ b, b < wz.heap.size → b ≠ p → b ≠ c → w.heap[b]? = wz.heap[b]?
 alsoz : wz.heap.size ≤ w.heap.size
section
variable {n0 p c tid : Nat} {sz : List Nat} {fs : List Ty} {wz w0 : World} {s0 : RS} {cells chunks : List (List Value)} {s : RS} {w : World}
theorem MSt.ne (h : MSt n0 p c tid sz fs wz w0 s0 cells chunks s w) : c ≠ p := by
 have := h.c0; have := h.base; have := h.rst.lp; omega
theorem MSt.call (h : MSt n0 p c tid sz fs wz w0 s0 cells chunks s w) {f : Ty} {v : Value} {w' : World} (g : Df n0 p f s w v w') :
 ∃ cs s', v = CU f cs ∧ MSt n0 p c tid sz (fs ++ [f]) wz w0 s0 (cells ++ [cs]) chunks s' w' ∧ (∃ (w : World) (S : Nat → Prop) (t : T), Rep w S t f cs) ∧ s'.nest = s.nest := by
 obtain ⟨t, s', cs, hc, rfl, hrep, hst, f', hn⟩ := g
 obtain ⟨l, hr, hchk⟩ := h.rep
 have hne := h.ne
 have hcl := h.blk.lt
 have hbase := h.base
 have hlp := h.rst.lp
 have hw0 := h.fr.size
 refine ⟨cs, s', rfl, ⟨hst, h.fr.trans (f'.drop (fun b hb => .inl hb)), h.c0, (f'.blk c hcl hne).trans h.blk, h.len, ⟨l ++ [t], ?_, (Jj l fs t f s0 s hchk).trans hc⟩, hbase, hn.trans h.nest, fun b h1 h2 h3 => (f'.blk b (Nat.lt_of_lt_of_le h1 h.alsoz) h2).trans (h.also b h1 h2 h3), Nat.le_trans h.alsoz f'.size⟩, ⟨_, _, _, hrep⟩, hn⟩
 refine RepC.snoc (Rep.agree (fun b hb hl => ⟨⟨by omega, by omega⟩, hl, rfl⟩) _ _ _ hrep) (RepC.agree (fun b hb hl => ⟨hb, Nat.lt_of_lt_of_le hl f'.size, f'.blk b hl (fun e => by have := hb.1; omega)⟩) hr)
theorem MSt.store (h : MSt n0 p c tid sz fs wz w0 s0 cells chunks s w) (j : Nat) {f : Ty} {cs : List Value} {ft off : Nat} {agg : Bool} (hc : ∃ (w : World) (S : Nat → Prop) (t : T), Rep w S t f cs) (hty : By prog ft agg f.size) (hj : sz[j]? = some f.size) (ho : off = Cy (sz.take j)) :
 ∃ w', (storeVar ft ⟨c, off, none⟩ (CU f cs)).run prog w = .ok () w' ∧ MSt n0 p c tid sz fs wz w0 s0 cells (chunks.set j cs) s w' := by
 obtain ⟨wx, S, t, hx⟩ := hc
 obtain ⟨h1, h2⟩ := Rep.one _ _ _ hx
 obtain ⟨e1, e2, e3⟩ := C1 chunks sz j cs h.len (by rw [hj, h1])
 have hst := BR (P := prog) hty (El hx) h1 h2 h.blk (o := off) (by rw [ho]; exact e3)
 rw [ho] at hst ⊢
 rw [e1] at hst
 obtain ⟨l, hr, hchk⟩ := h.rep
 have hbase := h.base
 have hc0 := h.c0
 refine ⟨_, hst, ⟨h.rst.keep (Fr.setRow (O := only c) _ V) (fun k hk => by have : k = c := hk; omega), h.fr.trans (Fr.setRow _ (.inr h.c0)), h.c0, h.blk.setRow _, e2, ⟨l, RepC.agree (fun b hb hl => ⟨hb, by simpa using hl, setRow_other _ _ _ _ hb.2⟩) hr, hchk⟩, h.base, h.nest, fun b h1 h2 h3 => (setRow_other _ _ _ _ h3).trans (h.also b h1 h2 h3), by simpa using h.alsoz⟩⟩
theorem MSt.frame (h : MSt n0 p c tid sz fs wz w0 s0 cells chunks s w) {w' : World} (f : Fr (only p) w (only p) w') : Fr (only p) w0 (only p) w' := by
 have hfr := h.fr
 exact ⟨f.os.trans hfr.os, f.tape.trans hfr.tape, f.output.trans hfr.output, Nat.le_trans hfr.size f.size, fun b hb hn => by
  have := hfr.size
  rw [f.blk b (by omega) hn, hfr.blk b hb hn], fun b hb => .inl hb⟩
theorem MSt.whole (h : MSt n0 p c tid sz fs wz w0 s0 cells chunks s w) {N : Nat} (hty : By prog tid true N) (new : List (List Value)) (hnew : new.map List.length = sz) (hN : new.flatten.length = N) (h1 : ∀ x ∈ new.flatten, x.oneCell' = true) :
 (storeVar tid ⟨c, 0, none⟩ (.agg new.flatten.toArray)).run prog w = .ok () (w.setRow c new.flatten.toArray) ∧ MSt n0 p c tid sz fs wz w0 s0 cells new s (w.setRow c new.flatten.toArray) := by
 have hl : new.flatten.length = chunks.flatten.length := by
  have key : ∀ (cs : List (List Value)), cs.flatten.length = Cy (cs.map List.length) := fun cs => by
   induction cs with
   | nil => rfl
   | cons c cs ih => simp only [List.flatten_cons, List.length_append, List.map_cons, Cy, ih]
  rw [key, key, hnew, h.len]
 have hst := BR (P := prog) (v := .agg new.flatten.toArray) hty rfl hN h1 h.blk (o := 0) (by omega)
 have hsp : Ch chunks.flatten 0 new.flatten = new.flatten := by simp [Ch, hl]
 rw [hsp] at hst
 obtain ⟨l, hr, hchk⟩ := h.rep
 have hbase := h.base
 have hc0 := h.c0
 exact ⟨hst, ⟨h.rst.keep (Fr.setRow (O := only c) _ V) (fun k hk => by have : k = c := hk; omega), h.fr.trans (Fr.setRow _ (.inr h.c0)), h.c0, h.blk.setRow _, hnew, ⟨l, RepC.agree (fun b hb hl => ⟨hb, by simpa using hl, setRow_other _ _ _ _ hb.2⟩) hr, hchk⟩, h.base, h.nest, fun b h1 h2 h3 => (setRow_other _ _ _ _ h3).trans (h.also b h1 h2 h3), by simpa using h.alsoz⟩⟩
theorem MSt.self (h : MSt n0 p c tid sz fs wz w0 s0 cells chunks s w) {N : Nat} (hty : By prog tid true N) (hN : chunks.flatten.length = N) (h1 : ∀ x ∈ chunks.flatten, x.oneCell' = true) :
 ∃ w', (storeVar tid ⟨c, 0, none⟩ (.agg chunks.flatten.toArray)).run prog w = .ok () w' ∧ MSt n0 p c tid sz fs wz w0 s0 cells chunks s w' ∧ (∀ (S : Nat → Prop) (t : T) (f : Ty) (cs : List Value), Rep w S t f cs → Rep w' S t f cs) := by
 obtain ⟨hst, M⟩ := h.whole hty chunks h.len hN h1
 refine ⟨_, hst, M, fun S t f cs hr => Rep.agree (fun b hb hl => ⟨hb, by simpa using hl, ?_⟩) _ _ _ hr⟩
 by_cases hbc : b = c
 · subst hbc; exact M.blk.trans h.blk.symm
 · exact setRow_other _ _ _ _ hbc
theorem MSt.start (h : RSt n0 p s w) {wa : World} {Z : List Value} (hZ : Z.length = Cy sz) (hb : Blk w c Z tid) (hc : wa.heap.size ≤ c) (hba : n0 ≤ wa.heap.size) (hf : Fr (only p) wa (fun b => b = p ∨ wa.heap.size ≤ b) w) : MSt n0 p c tid sz [] w wa s [] (CN sz Z) s w :=
 ⟨h, hf, hc, by rw [IB sz Z hZ]; exact hb, Lo sz Z hZ, ⟨[], trivial, by simp only [BT]⟩, hba, rfl, fun _ _ _ _ => rfl, Nat.le_refl _⟩
theorem Dz (sn : SN) : Cy (sn.fields.map Ty.size) = sn.size := by cases sn <;> rfl
theorem En : ∀ (cs : List (List Value)), cs.flatten.length = Cy (cs.map List.length)
 | [] => rfl
 | c :: cs => by simp only [List.flatten_cons, List.length_append, List.map_cons, Cy, En cs]
theorem RepC.one {w : World} {S : Nat → Prop} : ∀ {l : List T} {fs : List Ty} {cs : List (List Value)}, RepC w S l fs cs → ∀ x ∈ cs.flatten, x.oneCell' = true
 | [], [], [], _, x, hx => by simp at hx
 | t :: l, f :: fs, c :: cs, h, x, hx => by
  simp only [List.flatten_cons, List.mem_append] at hx
  rcases hx with hx | hx
  · exact (Rep.one _ _ _ h.1).2 x hx
  · exact RepC.one h.2 x hx
 | [], [], _ :: _, h, _, _ => h.elim
 | [], _ :: _, _, h, _, _ => h.elim
 | _ :: _, [], _, h, _, _ => h.elim
 | _ :: _, _ :: _, [], h, _, _ => h.elim
theorem MSt.rep_st {sn : SN} (h : MSt n0 p c tid sz sn.fields wz w0 s0 cells chunks s w) (hc : chunks = cells) : chunks.flatten.length = sn.size ∧ (∀ x ∈ chunks.flatten, x.oneCell' = true) ∧ ∃ l, BT l sn.fields s0 = some s ∧ Rep w (fun b => w0.heap.size ≤ b) (.agg sn l) (.st sn) chunks.flatten := by
 subst hc
 obtain ⟨l, hr, hchk⟩ := h.rep
 have hlen : chunks.flatten.length = sn.size := by rw [En, hr.size, Dz]
 refine ⟨hlen, hr.one, l, hchk, ?_⟩
 have hr' : RepC w (fun b => w0.heap.size ≤ b) l sn.fields chunks := RepC.agree (fun b hb hl => ⟨hb.1, hl, rfl⟩) hr
 simp only [Rep]
 exact ⟨trivial, hlen, EQ [] hr'⟩
theorem MSt.good_st {sn : SN} (h : MSt n0 p c tid sz sn.fields wz w0 s0 cells chunks s w) (hd : sn.deep = false) (hc : chunks = cells) : Df n0 p (.st sn) s0 w0 (.agg chunks.flatten.toArray) w := by
 obtain ⟨_, _, l, hchk, hrep⟩ := h.rep_st hc
 exact ⟨.agg sn l, s, chunks.flatten, Go.Sx.good_st hd hchk, rfl, hrep, h.rst, ⟨h.fr.os, h.fr.tape, h.fr.output, h.fr.size, h.fr.blk, fun b hb => .inl hb⟩, h.nest⟩
theorem MSt.fail_st {sn : SN} {f : Ty} {gs : List Ty} {ch : List PanicEntry} {w' : World} (h : MSt n0 p c tid sz fs wz w0 s0 cells chunks s w) (hd : sn.deep = false) (hf : sn.fields = fs ++ f :: gs) (hr : Jw n0 p f s w ch w') : Jw n0 p (.st sn) s0 w0 ch w' := by
 obtain ⟨hch, hb, s', h1, f1, hn⟩ := hr
 obtain ⟨l, _, hchk⟩ := h.rep
 exact ⟨hch, Pu hd hf hchk hb, s', h1, h.frame f1, by have := h.nest; omega⟩
end
theorem Ij {P : Program} {fn : Func} {q : Tmp} {t : TypeId} (h : fn.results = #[.cell q t]) {tmps : Array Value} {w : World} {b : Nat} {x : Value} (h1 : tmps[q]? = some (ptr b)) (hx : (loadVar t ⟨b, 0, none⟩).run P w = .ok x w) :
 (results fn tmps).run P w = .ok x w := by
 simp [results, h, Array.getD_eq_getD_getElem?, h1, ptr, asAddr, hx]
theorem BE {P : Program} {fn : Func} {R : Ending → World → Prop} {a : Act} {n : Nat} {m : Env} {w : World} {q : Tmp} {t : TypeId} {b : Nat} {x : Value} (h : fn.results = #[.cell q t]) (ha : Loc n [] m a) (hq : m.get q = some (ptr b)) (hx : (loadVar t ⟨b, 0, none⟩).run P w = .ok x w)
 (hR : R (.returned x) w) : bodyPost P fn R .ret a w :=
 bodyPost_ret (Ij h (ha.slot q _ hq) hx) ha.defers hR
theorem MSt.new {n0 p tid : Nat} {sz : List Nat} {s : RS} {w : World} (h : RSt n0 p s w) {Z : List Value} (hZ : Z.length = Cy sz) : MSt n0 p w.heap.size tid sz [] (w.alloc (.cells Z.toArray tid)) w s [] (CN sz Z) s (w.alloc (.cells Z.toArray tid)) :=
 MSt.start (h.keep (Fr.alloc (fun _ => False) w _) (fun _ h => h.elim)) hZ AN (Nat.le_refl _) h.ln ⟨rfl, rfl, rfl, by simp, fun b hb _ => heap_alloc_old w _ b hb, fun b hb => hb.elim .inl .inr⟩
def Ko (bx : Nat) : Deferred := { target := .fn (.func 116) #[ptr bx], args := #[] ++ #[] }
section
variable {n0 p c tid : Nat} {sz : List Nat} {fs : List Ty} {wz w0 : World} {s0 : RS} {cells chunks : List (List Value)} {s : RS} {w : World}
theorem MSt.deep {w1 : World} {Z : List Value} (M : MSt n0 p c tid sz [] wz w0 s0 [] (CN sz Z) s0 w1) (hZ : Z.length = Cy sz) {w2 : World} (f : Fr (only p) w1 (only p) w2) (h : RSt n0 p { s0 with nest := s0.nest + 1 } w2) :
 MSt n0 p c tid sz [] w2 w0 { s0 with nest := s0.nest + 1 } [] (CN sz Z) { s0 with nest := s0.nest + 1 } w2 := by
 have hb := M.blk
 rw [IB sz Z hZ] at hb
 exact MSt.start h hZ ((f.blk c hb.lt M.ne).trans hb) M.c0 M.base (M.fr.trans (f.drop (fun b hb => .inl hb)))
theorem MSt.bx (h : MSt n0 p c tid sz fs wz w0 s0 cells chunks s w) {bx : Nat} (hb : Blk wz bx [ptr p] 90) (h1 : bx ≠ p) (h2 : bx ≠ c) : Blk w bx [ptr p] 90 := (h.also bx hb.lt h1 h2).trans hb
theorem MSt.fail_deep {sn : SN} {f : Ty} {sa : RS} {ch : List PanicEntry} {w' : World} {bx : Nat} {fn : Func} {R : Value → World → Prop} (h : MSt n0 p c tid sz fs wz w0 { sa with nest := sa.nest + 1 } cells chunks s w) (hbx : Blk wz bx [ptr p] 90) (h1 : bx ≠ p) (h2 : bx ≠ c)
 (hb : ∀ l, BT l fs { sa with nest := sa.nest + 1 } = some s → L1 f s → L1 (.st sn) sa) (hr : Jw n0 p f s w ch w') : ∀ tmps, Leaves prog fn tmps (Dq R (Jw n0 p (.st sn) sa w0)) [Ko bx] (.panicking ch) w' := by
 intro tmps
 obtain ⟨rfl, hbad, s', hs', f', hn⟩ := hr
 obtain ⟨l, _, hchk⟩ := h.rep
 have hnest := h.nest
 simp only at hnest
 have hx := h.bx hbx h1 h2
 refine leaves_cons (f := 116) (args := [ptr bx].toArray) (by simp) (by simp [invoke, call116]) ((Q6 hs' ((f'.blk bx hx.lt h1).trans hx) (by omega)).mono ?_)
 rintro e u' w'' ⟨rfl, rfl, f'', hs''⟩
 exact ⟨rfl, hb l hchk hbad, _, hs'', h.frame (f'.trans f''), by show sa.nest ≤ s'.nest - 1; omega⟩
theorem MSt.good_deep {sn : SN} {sa : RS} {bx N n : Nat} {fn : Func} {Sx : List PanicEntry → World → Prop} {a : Act} {m : Env} {l : List T} (h : MSt n0 p c tid sz fs wz w0 { sa with nest := sa.nest + 1 } cells chunks s w) (hbx : Blk wz bx [ptr p] 90) (h1 : bx ≠ p) (h2 : bx ≠ c)
 (hd : sn.deep = true) (hno : ¬ 1000 < sa.nest + 1) (hty : By prog tid true N) (hN : chunks.flatten.length = N) (hchk : BT l sn.fields { sa with nest := sa.nest + 1 } = some s) (hrep : Rep w (fun b => w0.heap.size ≤ b) (.agg sn l) (.st sn) chunks.flatten)
 (hres : fn.results = #[.cell 2 tid]) (ha : Loc n [Ko bx] m a) (hq : m.get 2 = some (ptr c)) : bodyPostD prog fn (Dq (Df n0 p (.st sn) sa w0) Sx) .ret a w := by
 show Leaves prog fn a.tmps _ a.defers .returning w
 rw [ha.defers]
 have hnest := h.nest
 simp only at hnest
 refine leaves_cons (f := 116) (args := [ptr bx].toArray) (by simp) (by simp [invoke, call116]) ((Q6 h.rst (h.bx hbx h1 h2) (by omega)).mono ?_)
 rintro e u' w'' ⟨rfl, rfl, f'', hs''⟩
 have hblk : Blk w'' c chunks.flatten tid := (f''.blk c h.blk.lt h.ne).trans h.blk
 refine ⟨_, Ij hres (ha.slot 2 _ hq) (Bg hty hN hblk.all), .agg sn l, { s with nest := sa.nest }, chunks.flatten, Go.Sx.good_deep hd hno hchk, rfl, ?_, ?_, h.frame f'', rfl⟩
 · refine Rep.agree (fun b hb hl => ⟨hb, Nat.lt_of_lt_of_le hl f''.size, f''.blk b hl (fun e => by have := h.base; have := h.rst.lp; have : b = p := e; omega)⟩) _ _ _ hrep
 · have : s.nest - 1 = sa.nest := by omega
   rw [this] at hs''; exact hs''
end
end Go.Sx
namespace Go.Sx
open Go.Proofs Go.Proofs.Tryz
theorem Qt {n0 p k : Nat} : BG n0 p 189 (.st .test) k := by
 intro s w hs hnk
 obtain ⟨Z, hz, hzl⟩ : ∃ Z : List Value, (∀ w, (zeroValue 61).run prog w = .ok (.agg Z.toArray) w) ∧ Z.length = Cy [1, 1] := ⟨_, zeroValue61, rfl⟩
 refine AB 10 func189 V V V ?_
 refine Af (Aa (AO (hz _) V (Ar [(0, ptr p), (2, ptr w.heap.size)] ⟨V, V, trivial⟩ ?_)))
 have M := MSt.new (tid := 61) (sz := [1, 1]) hs hzl
 show W _ _ _ _ _ _ (w.alloc (.cells Z.toArray 61))
 generalize w.alloc (.cells Z.toArray 61) = w1 at M ⊢
 refine Af (Aa (Ac V V (Aj call118 V V (Ez _ _ M.rst (M.nest.trans hnk)) ?_ ?_)))
 rotate_left
 · intro ch w' hf a ha
   exact Am (Av ha (M.fail_st (sn := .test) V V hf))
 rintro _ w' g
 obtain ⟨c0, s', rfl, M, H0, _⟩ := M.call g
 refine Ah V V (Ae ?_)
 refine Af (Aa (Ac V V (Ac V V (Aj call56 V V (Iu _ _ M.rst (M.nest.trans hnk)) ?_ ?_))))
 rotate_left
 · intro ch w' hf a ha
   exact Am (Av ha (M.fail_st (sn := .test) V V hf))
 rintro _ w' g
 obtain ⟨c1, s', rfl, M, H1, _⟩ := M.call g
 obtain ⟨wx, Sx, tx, hx⟩ := H0
 obtain ⟨wy, Sy, ty, hy⟩ := H1
 obtain ⟨n, rfl, rfl, hn⟩ := hx.int_inv
 obtain ⟨x, rfl, rfl, hxs⟩ := hy.str_inv
 have hb : ∀ w, (Instr.build 61 #[(0, .int .i64 n), (1, .string x)]).run prog w = .ok (.agg [Value.int .i64 n, .string x].toArray) w := fun w => by
  simp [Instr.build, zeroValue61, runUnderlying61, Value.cells, Instr.fill, sizeOf3, sizeOf9]
 obtain ⟨hst, M⟩ := M.whole (N := 2) IL [[.int .i64 n], [.string x]] rfl rfl (by simp [Value.oneCell'])
 refine Cl V (hb _) V (An V V hst (Ae (AA fun a ha => BE V ha V (Bg IL V M.blk.all) (M.good_st (sn := .test) V V))))
end Go.Sx
