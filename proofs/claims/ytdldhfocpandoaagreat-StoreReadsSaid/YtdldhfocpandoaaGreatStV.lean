import Derived.Test.YtdldhfocpandoaaGreatStU
import Derived.Test.YtdldhfocpandoaaGreatStT
set_option maxHeartbeats 8000000
set_option maxRecDepth 8000
namespace Go.Sx
open Go.Proofs Go.Proofs.Tryz
structure MQ (n0 p : Nat) (full : List UInt8) (c tid : Nat) (sz : List Nat) (all : List Ty) (R : Nat) (w0 : World) (q0 : QS) (k : Nat) (cells chunks : List (List Value)) (q : QS) (w : World) : Prop where
 st : QSt n0 p full q w
 fr : Fr (only p) w0 (fun b => b = p ∨ w0.heap.size ≤ b) w
 c0 : w0.heap.size ≤ c
 blk : Blk w c chunks.flatten tid
 len : chunks.map List.length = sz
 rep : ∃ l, l.length = k ∧ RepC w (fun b => w0.heap.size ≤ b ∧ b ≠ c) l (all.take k) cells ∧ CostF R (all.take k) q0 q l ∧ FitsF all q0 q l
 base : n0 ≤ w0.heap.size
 nest : q.nest = q0.nest
 tab : q.tab = q0.tab
section
variable {n0 p c tid k R : Nat} {full : List UInt8} {sz : List Nat} {all : List Ty} {w0 : World} {q0 q : QS} {cells chunks : List (List Value)} {w : World}
theorem MQ.ne (h : MQ n0 p full c tid sz all R w0 q0 k cells chunks q w) : c ≠ p := by
 have := h.c0; have := h.base; have := h.st.lp; omega
theorem MQ.start (h : QSt n0 p full q w) {wa : World} {Z : List Value} (hZ : Z.length = Cy sz) (hb : Blk w c Z tid) (hc : wa.heap.size ≤ c) (hba : n0 ≤ wa.heap.size) (hf : Fr (only p) wa (fun b => b = p ∨ wa.heap.size ≤ b) w) : MQ n0 p full c tid sz all R wa q 0 [] (CN sz Z) q w :=
 ⟨h, hf, hc, by rw [IB sz Z hZ]; exact hb, Lo sz Z hZ, ⟨[], rfl, trivial, CostF.nil, FitsF.nil⟩, hba, rfl, rfl⟩
theorem MQ.add (h : MQ n0 p full c tid sz all R w0 q0 k cells chunks q w) {f : Ty} {w' : World} {t : T} {q' : QS} {cs : List Value} (hf : all[k]? = some f) (hR : IX f ≤ R) (hrep : Rep w' (fun b => w.heap.size ≤ b) t f cs) (hst : QSt n0 p full q' w') (f' : Fr (only p) w (only p) w') (hn : q'.nest = q.nest) (htab : q'.tab = q.tab)
 (hcost : Ik f q q' t) (hfits : Fits f q q' t) : MQ n0 p full c tid sz all R w0 q0 (k + 1) (cells ++ [cs]) chunks q' w' := by
 obtain ⟨l, hl, hr, hc, hF⟩ := h.rep
 have hne := h.ne
 have hcl := h.blk.lt
 have hbase := h.base
 have hlp := h.st.lp
 have hw0 := h.fr.size
 have htake : all.take (k + 1) = all.take k ++ [f] := by rw [List.take_add_one, hf]; rfl
 refine ⟨hst, h.fr.trans (f'.drop (fun b hb => .inl hb)), h.c0, (f'.blk c hcl hne).trans h.blk, h.len, ⟨l ++ [t], by simp [hl], ?_, ?_, hF.snoc hfits (by rw [hl]; exact hf)⟩, hbase, hn.trans h.nest, htab.trans h.tab⟩
 · rw [htake]
   refine RepC.snoc (Rep.agree (fun b hb hl => ⟨⟨by omega, by omega⟩, hl, rfl⟩) _ _ _ hrep) (RepC.agree (fun b hb hl => ⟨hb, Nat.lt_of_lt_of_le hl f'.size, f'.blk b hl (fun e => by have := hb.1; omega)⟩) hr)
 · rw [htake]; exact hc.snoc hcost h.nest hR
theorem MQ.read (h : MQ n0 p full c tid sz all R w0 q0 k cells chunks q w) {f : Ty} {v : Value} {w' : World} (hf : all[k]? = some f) (hR : IX f ≤ R) (g : QGood n0 p full f q w v w') :
 ∃ cs q', v = CU f cs ∧ MQ n0 p full c tid sz all R w0 q0 (k + 1) (cells ++ [cs]) chunks q' w' ∧ (∃ (w : World) (S : Nat → Prop) (t : T), Rep w S t f cs) := by
 obtain ⟨t, q', cs, rfl, hrep, hst, f', hn, htab, hcost, hfits⟩ := g
 exact ⟨cs, q', rfl, h.add hf hR hrep hst f' hn htab hcost hfits, ⟨_, _, _, hrep⟩⟩
theorem MQ.store (h : MQ n0 p full c tid sz all R w0 q0 k cells chunks q w) (j : Nat) {f : Ty} {cs : List Value} {ft off : Nat} {agg : Bool} (hc : ∃ (w : World) (S : Nat → Prop) (t : T), Rep w S t f cs) (hty : By prog ft agg f.size) (hj : sz[j]? = some f.size) (ho : off = Cy (sz.take j)) :
 ∃ w', (storeVar ft ⟨c, off, none⟩ (CU f cs)).run prog w = .ok () w' ∧ MQ n0 p full c tid sz all R w0 q0 k cells (chunks.set j cs) q w' := by
 obtain ⟨wx, S, t, hx⟩ := hc
 obtain ⟨h1, h2⟩ := Rep.one _ _ _ hx
 obtain ⟨e1, e2, e3⟩ := C1 chunks sz j cs h.len (by rw [hj, h1])
 have hst := BR (P := prog) hty (El hx) h1 h2 h.blk (o := off) (by rw [ho]; exact e3)
 rw [ho] at hst ⊢
 rw [e1] at hst
 obtain ⟨l, hl, hr, hcost, hF⟩ := h.rep
 have hbase := h.base
 have hc0 := h.c0
 exact ⟨_, hst, ⟨h.st.keep (Fr.setRow (O := only c) _ V) (fun k hk => by have : k = c := hk; omega), h.fr.trans (Fr.setRow _ (.inr h.c0)), h.c0, h.blk.setRow _, e2, ⟨l, hl, RepC.agree (fun b hb hl => ⟨hb, by simpa using hl, setRow_other _ _ _ _ hb.2⟩) hr, hcost, hF⟩, h.base, h.nest, h.tab⟩⟩
theorem MQ.val {sn : SN} (h : MQ n0 p full c tid sz sn.fields R w0 q0 sn.fields.length cells chunks q w) (hc : chunks = cells) : chunks.flatten.length = sn.size ∧ (∀ x ∈ chunks.flatten, x.oneCell' = true) ∧
 ∃ l, l.length = sn.fields.length ∧ CostF R sn.fields q0 q l ∧ FitsF sn.fields q0 q l ∧ Rep w (fun b => w0.heap.size ≤ b ∧ b ≠ c) (.agg sn l) (.st sn) chunks.flatten := by
 subst hc
 obtain ⟨l, hl, hr, hcost, hF⟩ := h.rep
 rw [List.take_length] at hr hcost
 have hlen : chunks.flatten.length = sn.size := by rw [En, hr.size, Dz]
 refine ⟨hlen, hr.one, l, hl, hcost, hF, ?_⟩
 simp only [Rep]
 exact ⟨trivial, hlen, EQ [] hr⟩
theorem MQ.frame (h : MQ n0 p full c tid sz all R w0 q0 k cells chunks q w) : Fr (only p) w0 (only p) w := by
 have hfr := h.fr
 exact ⟨hfr.os, hfr.tape, hfr.output, hfr.size, fun b hb hn => hfr.blk b hb hn, fun b hb => .inl hb⟩
theorem MQ.good {sn : SN} (h : MQ n0 p full c tid sz sn.fields (IR sn - 1) w0 q0 sn.fields.length cells chunks q w) (hd : sn.deep = false) (hc : chunks = cells) : QGood n0 p full (.st sn) q0 w0 (.agg chunks.flatten.toArray) w := by
 obtain ⟨_, _, l, hl, hcost, hF, hrep⟩ := h.val hc
 exact ⟨.agg sn l, q, chunks.flatten, rfl, Rep.agree (fun b hb hl => ⟨hb.1, hl, rfl⟩) _ _ _ hrep, h.st, h.frame, h.nest, h.tab, hcost.st hd hl, hF.st hd hl⟩
theorem MQ.new (h : QSt n0 p full q w) {Z : List Value} (hZ : Z.length = Cy sz) : MQ n0 p full w.heap.size tid sz all R w q 0 [] (CN sz Z) q (w.alloc (.cells Z.toArray tid)) :=
 MQ.start (h.keep (Fr.alloc (fun _ => False) w _) (fun _ h => h.elim)) hZ AN (Nat.le_refl _) h.ln ⟨rfl, rfl, rfl, by simp, fun b hb _ => heap_alloc_old w _ b hb, fun b hb => hb.elim .inl .inr⟩
theorem QGood.put {f : Ty} {wa w00 : World} {v : Value} (g : QGood n0 p full f q wa v w) (f0 : F0 w00 wa) (hn : n0 ≤ w00.heap.size) {c2 : Nat} (h2 : w00.heap.size ≤ c2) (h3 : c2 < wa.heap.size) (cs : Array Value) : QGood n0 p full f q w00 v (w.setRow c2 cs) := by
 obtain ⟨t, q', cs', rfl, hrep, hst, f', hn', htab, hcost, hfits⟩ := g
 have hs0 := f0.size
 refine ⟨t, q', cs', rfl, Rep.agree (fun b hb hl => ⟨by omega, by simpa using hl, setRow_other _ _ _ _ (by omega)⟩) _ _ _ hrep, hst.keep (Fr.setRow (O := only c2) cs V) (fun k hk => by have : k = c2 := hk; omega), ?_, hn', htab, hcost, hfits⟩
 refine ⟨f'.os.trans f0.os, f'.tape.trans f0.tape, f'.output.trans f0.output, by simpa using Nat.le_trans hs0 f'.size, fun b hb hn => ?_, fun b hb => .inl hb⟩
 rw [setRow_other _ _ _ _ (by omega), f'.blk b (by omega) hn, Fr.blk f0 b hb (fun h => h)]
theorem MQ.finish {sn : SN} (h : MQ n0 p full c tid sz sn.fields (IR sn - 1) w0 q0 sn.fields.length cells chunks q w) (hd : sn.deep = false) (hc : chunks = cells) {w00 : World} (f0 : F0 w00 w0) (hn : n0 ≤ w00.heap.size) {c2 : Nat} {Z : List Value} (h2 : w00.heap.size ≤ c2) (hb2 : Blk w0 c2 Z tid)
 (hty : By prog tid true sn.size) (hZ : Z.length = sn.size) :
 (loadVar tid ⟨c, 0, none⟩).run prog w = .ok (.agg chunks.flatten.toArray) w ∧ (storeVar tid ⟨c2, 0, none⟩ (.agg chunks.flatten.toArray)).run prog w = .ok () (w.setRow c2 chunks.flatten.toArray) ∧
 (loadVar tid ⟨c2, 0, none⟩).run prog (w.setRow c2 chunks.flatten.toArray) = .ok (.agg chunks.flatten.toArray) (w.setRow c2 chunks.flatten.toArray) ∧ QGood n0 p full (.st sn) q0 w00 (.agg chunks.flatten.toArray) (w.setRow c2 chunks.flatten.toArray) := by
 obtain ⟨hl, h1, _⟩ := h.val hc
 have hlt := hb2.lt
 have hlp := h.st.lp
 have hb : Blk w c2 Z tid := (h.fr.blk c2 hlt (fun e => by have : c2 = p := e; omega)).trans hb2
 have hst := BR (P := prog) (v := .agg chunks.flatten.toArray) hty rfl hl h1 hb (o := 0) (by omega)
 rw [show Ch Z 0 chunks.flatten = chunks.flatten by simp [Ch, hl, hZ]] at hst
 exact ⟨Bg hty hl h.blk.all, hst, Bg hty hl (hb.setRow _).all, (h.good hd hc).put f0 hn h2 hlt _⟩
end
structure LQ (n0 p : Nat) (full : List UInt8) (X : Nat → Prop) (e : Ty) (tid : Nat) (w0 : World) (q0 q1 : QS) (n : Nat) (l : List T) (v : Value) (q : QS) (w : World) : Prop where
 st : QSt n0 p full q w
 fr : Fr X w0 (fun b => X b ∨ w0.heap.size ≤ b) w
 gr : Gr (fun b => w0.heap.size ≤ b) X w0.heap.size tid e l v w
 cost : CostL e q0 q l
 fits : FitsL e q1 q n l
 base : n0 ≤ w0.heap.size
 nest : q.nest = q0.nest
 tab : q.tab = q0.tab
 lim : n ≤ 3008
 lt : ∀ b, X b → b < w0.heap.size
 hp : X p
theorem CS : ∀ (cs : List (List Value)) (ns : List Nat) (j : Nat) (v : Value), cs.map List.length = ns → cs[j]? = some [v] → cs.flatten[Cy (ns.take j)]? = some v
 | [], _, j, v, _, hj => by simp at hj
 | d :: cs, ns, 0, v, h, hj => by
  simp only [List.getElem?_cons_zero, Option.some.injEq] at hj
  subst hj
  simp [Cy]
 | d :: cs, ns, j + 1, v, h, hj => by
  subst h
  simp only [List.getElem?_cons_succ] at hj
  have := CS cs _ j v rfl hj
  simp only [List.map_cons, List.take_succ_cons, Cy, List.flatten_cons]
  rw [List.getElem?_append_right (by omega)]
  simpa using this
section
variable {n0 p tid n : Nat} {full : List UInt8} {X : Nat → Prop} {e : Ty} {w0 : World} {q0 q1 q : QS} {l : List T} {v : Value} {w : World}
theorem LQ.start {w1 : World} {v1 : Value} (h : QSt n0 p full q0 w0) (hp : X p) (hX : ∀ b, X b → b < w0.heap.size) (g : PY n0 p full q0 w0 v1 w1) : ∃ n q1, v1 = .int .i64 ((n : Nat) : Int) ∧ LQ n0 p full X e tid w0 q0 q1 n [] (.slice none 0 0) q1 w1 ∧
 (∀ s, IT s q0 → ∀ m s1, s.eat m = some s1 → m ≤ s1.b.length → m = n ∧ IT s1 q1) ∧ Fr (only p) w0 (only p) w1 := by
 obtain ⟨n, q1, rfl, hn, h1, f1, ht, hne, hb, hg, hle, hz, hcan, _⟩ := g
 have := h1.le
 have := h1.fl
 have f2 : Fr X w0 X w1 := f1.drop (fun b hb => by have : b = p := hb; subst this; exact hp)
 exact ⟨n, q1, rfl, ⟨h1, ⟨f2.os, f2.tape, f2.output, f2.size, f2.blk, fun b hb => hb⟩, Gr.start, ⟨fun h => ⟨by rw [hb h]; exact h, by rw [hb h], rfl⟩, fun h h' => by have := hg h h'; simp only [BA]; omega, fun h h' => by simp only [BA]; omega⟩, fun s hs u s' _ hu => ⟨u, s, rfl, hs, hu⟩, h.ln, hne, ht, by omega, hX, hp⟩, hcan, f1⟩
theorem LQ.turn (h : LQ n0 p full X e tid w0 q0 q1 n l v q w) {w' : World} (f : F0 w w') : LQ n0 p full X e tid w0 q0 q1 n l v q w' :=
 ⟨h.st.keep f (fun _ h => h.elim), h.fr.trans (f.drop (fun _ h => h.elim)), h.gr.turn f (fun _ h => h.elim), h.cost, h.fits, h.base, h.nest, h.tab, h.lim, h.lt, h.hp⟩
theorem LQ.step {ts bytes : Nat} {ty : TypeId} (hu : prog.underlying ts = some (.slice tid)) (hi : Ck prog tid e.size bytes) (hby : bytes ≤ 4096) (hsz : 0 < e.size) (hsz2 : e.size ≤ 2 ^ 24)
 (h : LQ n0 p full X e tid w0 q0 q1 n l v q w) (hb : q.bad = false) (hlt : l.length < n) {x : Value} {w1 : World} (g : QGood n0 p full e q w x w1) :
 ∃ vb w2 v' w3 t q', (Instr.buildSlice ts 1 #[(0, x)]).run prog w1 = .ok vb w2 ∧ (Builtin.append_ #[ts, ts] ty #[v, vb]).run prog w2 = .ok v' w3 ∧ LQ n0 p full X e tid w0 q0 q1 n (l ++ [t]) v' q' w3 ∧ (∀ b, b < w0.heap.size → b ≠ p → w2.heap[b]? = w.heap[b]? ∧ w3.heap[b]? = w.heap[b]?) := by
 obtain ⟨t, q', cs, rfl, hrep, hst, f', hn, htab, hcost, hfits⟩ := g
 have hbase := h.base
 have hlp := h.st.lp
 have hlim := h.lim
 have hw0 := h.fr.size
 have hf' := f'.size
 have hpX : ∀ b, only p b → X b := fun b hb => by have : b = p := hb; subst this; exact h.hp
 have gr1 := h.gr.turn f' hpX
 obtain ⟨_, _, _, _, hrow⟩ := h.gr.rep
 obtain ⟨vb, w2, v', w3, hr1, hr2, gr3, f3, f12⟩ := gr1.step (ty := ty) hu hi hby hsz hsz2 hrep (fun b hb _ => ⟨by omega, fun hx => by have := h.lt b hx; omega, fun ho => by have := AT hrow ho; omega⟩) (by omega) (by omega) (fun b hx => by have := h.lt b hx; omega)
 refine ⟨vb, w2, v', w3, t, q', hr1, hr2, ⟨hst.keep f3 (fun b hb => by have := (h.gr.new b hb).1; omega), h.fr.trans ((f'.drop (fun b hb => .inl (hpX b hb))).trans (f3.drop (fun b hb => .inr (h.gr.new b hb).1))), gr3, h.cost.snoc hcost h.nest hb, h.fits.snoc hfits hlt, h.base, hn.trans h.nest, htab.trans h.tab, h.lim, h.lt, h.hp⟩, fun b hb hne => ⟨?_, ?_⟩⟩
 · rw [f12.blk b (by omega) (fun h => h), f'.blk b (by omega) hne]
 · rw [f3.blk b (by omega) (fun ho => by have := (h.gr.new b ho).1; omega), f'.blk b (by omega) hne]
theorem LQ.put {c tid2 j ft : Nat} {sz : List Nat} {chunks : List (List Value)} {v' : Value} (h : LQ n0 p full X e tid w0 q0 q1 n l v' q w) (hB : Blk w c (chunks.set j [v]).flatten tid2) (hl : chunks.map List.length = sz) (hj : sz[j]? = some 1) (hc : X c) (_hcp : c ≠ p) (hcn : n0 ≤ c) (hty : By prog ft false 1) :
 ∃ w', (storeVar ft ⟨c, Cy (sz.take j), none⟩ v').run prog w = .ok () w' ∧ LQ n0 p full X e tid w0 q0 q1 n l v' q w' ∧ Blk w' c (chunks.set j [v']).flatten tid2 := by
 obtain ⟨_, e2, _⟩ := C1 chunks sz j [v] hl hj
 obtain ⟨e4, e5, e6⟩ := C1 (chunks.set j [v]) sz j [v'] e2 hj
 rw [List.set_set] at e4
 have hone : v'.oneCell' = true := (Rep.one _ _ _ h.gr.list).2 v' (by simp)
 have hst := BR (P := prog) (v := v') (vs := [v']) (n := 1) (agg := false) hty (El (f := .list e) h.gr.list) rfl (Ln hone) hB (o := Cy (sz.take j)) e6
 rw [e4] at hst
 refine ⟨_, hst, ⟨h.st.keep (Fr.setRow (O := only c) _ V) (fun k hk => by have : k = c := hk; omega), h.fr.trans (Fr.setRow _ (.inl hc)), h.gr.turn (Fr.setRow (O := X) _ hc) (fun _ h => h), h.cost, h.fits, h.base, h.nest, h.tab, h.lim, h.lt, h.hp⟩, hB.setRow _⟩
theorem LQ.done (h : LQ n0 p full (only p) e tid w0 q0 q1 n l v q w) (hlen : ∀ s, IT s q0 → ∀ m s1, s.eat m = some s1 → m ≤ s1.b.length → m = n ∧ IT s1 q1) (hend : q.bad = true ∨ l.length = n) : QGood n0 p full (.list e) q0 w0 v w := by
 refine ⟨.list l, q, [v], rfl, Rep.agree (fun b hb hl => ⟨hb.elim id id, hl, rfl⟩) _ _ _ h.gr.list, h.st, ?_, h.nest, h.tab, h.cost.list, FitsL.list hlen h.fits hend⟩
 have hfr := h.fr
 exact ⟨hfr.os, hfr.tape, hfr.output, hfr.size, fun b hb hn => hfr.blk b hb hn, fun b hb => .inl hb⟩
end
theorem MQ.list {n0 p c tid k R n et : Nat} {full : List UInt8} {sz : List Nat} {all : List Ty} {w0 wa : World} {q0 q1 qa q : QS} {cells chunks : List (List Value)} {w : World} {e : Ty} {l : List T} {v : Value}
 (h : MQ n0 p full c tid sz all R w0 q0 k cells chunks qa wa) (L : LQ n0 p full (fun b => b = p ∨ b = c) e et wa qa q1 n l v q w) (hlen : ∀ s, IT s qa → ∀ m s1, s.eat m = some s1 → m ≤ s1.b.length → m = n ∧ IT s1 q1) (hend : q.bad = true ∨ l.length = n)
 (hf : all[k]? = some (.list e)) (hR : IX (.list e) ≤ R) (j : Nat) (hb : Blk w c (chunks.set j [v]).flatten tid) (hj : sz[j]? = some 1) : MQ n0 p full c tid sz all R w0 q0 (k + 1) (cells ++ [[v]]) (chunks.set j [v]) q w := by
 obtain ⟨l0, hl, hr, hc, hF⟩ := h.rep
 have hne := h.ne
 have hbase := h.base
 have hlp := h.st.lp
 have hc0 := h.c0
 have hw0 := h.fr.size
 have htake : all.take (k + 1) = all.take k ++ [.list e] := by rw [List.take_add_one, hf]; rfl
 have hrep : Rep w (fun b => w0.heap.size ≤ b ∧ b ≠ c) (.list l) (.list e) [v] := Rep.agree (fun b hb hl => ⟨by have := h.blk.lt; rcases hb with hb | hb <;> exact ⟨by omega, by omega⟩, hl, rfl⟩) _ _ _ L.gr.list
 have hfr := L.fr
 refine ⟨L.st, ⟨hfr.os.trans h.fr.os, hfr.tape.trans h.fr.tape, hfr.output.trans h.fr.output, Nat.le_trans hw0 hfr.size, fun b hb hn => ?_, fun b hb => hb⟩, hc0, hb, (C1 chunks sz j [v] h.len hj).2.1, ⟨l0 ++ [.list l], by simp [hl], ?_, ?_, hF.snoc (FitsL.list hlen L.fits hend) (by rw [hl]; exact hf)⟩, hbase, L.nest.trans h.nest, L.tab.trans h.tab⟩
 · rw [hfr.blk b (Nat.lt_of_lt_of_le hb hw0) (fun h => h.elim hn (fun h => by omega)), h.fr.blk b hb hn]
 · rw [htake]
   exact RepC.snoc hrep (RepC.agree (fun b hb hl => ⟨hb, Nat.lt_of_lt_of_le hl hfr.size, hfr.blk b hl (fun h => h.elim (fun e => by have := hb.1; omega) hb.2)⟩) hr)
 · rw [htake]; exact hc.snoc L.cost.list h.nest hR
end Go.Sx
namespace Go.Sx
open Go.Proofs Go.Proofs.Tryz
theorem Gt {P : Program} {ops : Array Oper} {Q : Exit → Act → World → Prop} {fuel n g ts ta : Nat} {ds : List Deferred} {m : Env} {w : World} {L0 Lf : Array Bool} {dl da dc db : Nat} {args : Array Operand} {vs : List Value} {v : Value} {a : Addr} {R : Value → World → Prop}
 {y1 y3 y4 : TypeId} {p1 p3 p4 : String} {f1 f3 f4 : Array Edge} {ats : Array TypeId} (E : Value → Env)
 (i1 : ops[1]? = some ⟨some dl, .load ts (.tmp da), y1, p1, f1, none⟩) (i3 : ops[3]? = some ⟨some dc, .call { callee := .value (.func g), args := args, argTypes := ats }, y3, p3, f3, none⟩)
 (i4 : ops[4]? = some ⟨some db, .buildSlice ta 1 #[(0, .tmp dc)], y4, p4, f4, none⟩)
 (r0 : Region.ready .any ops L0 = [1, 3]) (r1 : Region.ready .any ops (L0.setIfInBounds 1 true) = [3]) (r13 : Region.ready .any ops ((L0.setIfInBounds 1 true).setIfInBounds 3 true) = [4])
 (r3 : Region.ready .any ops (L0.setIfInBounds 3 true) = [1, 4]) (r31 : Region.ready .any ops ((L0.setIfInBounds 3 true).setIfInBounds 1 true) = [4]) (r34 : Region.ready .any ops ((L0.setIfInBounds 3 true).setIfInBounds 4 true) = [1])
 (e1 : ((L0.setIfInBounds 1 true).setIfInBounds 3 true).setIfInBounds 4 true = Lf) (e2 : ((L0.setIfInBounds 3 true).setIfInBounds 1 true).setIfInBounds 4 true = Lf) (e3 : ((L0.setIfInBounds 3 true).setIfInBounds 4 true).setIfInBounds 1 true = Lf)
 (b1 : Nat.blt dl n = true) (b3 : Nat.blt dc n = true) (b4 : Nat.blt db n = true)
 (ha : ev m (.tmp da) = some (.pointer (some a))) (ha' : ∀ x, ev ((dc, x) :: m) (.tmp da) = some (.pointer (some a))) (ha'' : ∀ x y, ev ((db, y) :: (dc, x) :: m) (.tmp da) = some (.pointer (some a)))
 (hc : Ly m args.toList = some vs) (hc' : ∀ x, Ly ((dl, x) :: m) args.toList = some vs)
 (hx : ∀ x y, ev ((dc, x) :: (dl, y) :: m) (.tmp dc) = some x) (hx' : ∀ x, ev ((dc, x) :: m) (.tmp dc) = some x) (hx'' : ∀ x y, ev ((dl, y) :: (dc, x) :: m) (.tmp dc) = some x)
 (hg : IN P g) (hcall : Calls P g vs.toArray w (Dq R (fun _ _ => False))) (hl : (loadVar ts a).run P w = .ok v w) (hl1 : ∀ x w1, R x w1 → (loadVar ts a).run P w1 = .ok v w1)
 (hb : ∀ x w1, R x w1 → ∃ vb w2, (Instr.buildSlice ta 1 #[(0, x)]).run P w1 = .ok vb w2 ∧ (loadVar ts a).run P w2 = .ok v w2 ∧ AL P ops Q fuel Lf n ds (E vb) w2)
 (s1 : ∀ x y, Sub (E y) ((db, y) :: (dc, x) :: (dl, v) :: m)) (s2 : ∀ x y, Sub (E y) ((db, y) :: (dl, v) :: (dc, x) :: m)) (s3 : ∀ x y, Sub (E y) ((dl, v) :: (db, y) :: (dc, x) :: m)) :
 AL P ops Q (fuel + 1 + 1 + 1) L0 n ds m w := by
 refine DN (i := 1) (j := 3) r0 i1 i3 ?_ ?_
 · refine Ai ha hl b1 (Ba (AX (i := 3) r1 i3 (Aj hg (hc' _) b3 hcall ?_ Be)))
   intro x w1 hR
   obtain ⟨vb, w2, hr, _, hk⟩ := hb x w1 hR
   refine Ba (AX (i := 4) r13 i4 (A7 (vs := [x]) (by show Ly _ [.tmp dc] = _; simp only [Ly, hx]) hr b4 (Ba ?_)))
   rw [e1]; exact Lw _ (s1 x vb) hk
 · refine Aj hg hc b3 hcall ?_ Be
   intro x w1 hR
   obtain ⟨vb, w2, hr, hl2, hk⟩ := hb x w1 hR
   refine Ba (DN (i := 1) (j := 4) r3 i1 i4 ?_ ?_)
   · refine Ai (ha' x) (hl1 x w1 hR) b1 (Ba (AX (i := 4) r31 i4 (A7 (vs := [x]) (by show Ly _ [.tmp dc] = _; simp only [Ly, hx'']) hr b4 (Ba ?_))))
     rw [e2]; exact Lw _ (s2 x vb) hk
   · refine A7 (vs := [x]) (by show Ly _ [.tmp dc] = _; simp only [Ly, hx']) hr b4 (Ba (AX (i := 1) r34 i1 (Ai (ha'' x vb) hl2 b1 (Ba ?_))))
     rw [e3]; exact Lw _ (s3 x vb) hk
theorem Q_ {n0 p k : Nat} {full : List UInt8} : Cq n0 p full 134 (.st .test) k := by
 intro q w h hk
 refine AB 10 func134 V V V ?_
 refine Af (Aa (AO (zeroValue61 _) V (Ae ?_)))
 have f1 : F0 w (w.alloc (.cells [.int .i64 0, .string ⟨#[]⟩].toArray 61)) := Fr.alloc _ _ _
 have b1 : Blk (w.alloc (.cells [.int .i64 0, .string ⟨#[]⟩].toArray 61)) w.heap.size [.int .i64 0, .string ⟨#[]⟩] 61 := AN
 show W _ _ _ _ _ _ (w.alloc (.cells [.int .i64 0, .string ⟨#[]⟩].toArray 61))
 generalize w.alloc (.cells [.int .i64 0, .string ⟨#[]⟩].toArray 61) = w1 at f1 b1 ⊢
 have h1 : QSt n0 p full q w1 := h.keep f1 (fun _ h => h.elim)
 refine Af (Aa (Ac V V (Aj call86 V V (J4 q w1 h1 hk) ?_ Be)))
 rintro _ w2 ⟨t2, q2, cs2, rfl, r2, h2, f2, n2, tb2, co2, fi2⟩
 obtain ⟨z, rfl, rfl, hz⟩ := r2.int_inv
 refine Ah V V (Ae (Af (Aa (Ac V V (Ac V V (Aj call77 V V (Fe q2 w2 h2 (n2.trans hk)) ?_ Be))))))
 rintro _ w3 ⟨t3, q3, cs3, rfl, r3, h3, f3, n3, tb3, co3, fi3⟩
 obtain ⟨s, rfl, rfl, hs⟩ := r3.str_inv
 have hlt := b1.lt
 have hlp := h.lp
 have hln := h.ln
 have f13 := f2.trans f3
 have b3 : Blk w3 w.heap.size [.int .i64 0, .string ⟨#[]⟩] 61 := (f13.blk _ hlt (fun e => by have : w.heap.size = p := e; omega)).trans b1
 have hst := BR (P := prog) (v := .agg [.int .i64 z, .string s].toArray) (IL : By prog 61 true 2) rfl rfl (by intro x hx; simp only [List.mem_cons, List.not_mem_nil, or_false] at hx; rcases hx with h | h <;> subst h <;> rfl) b3 (o := 0) (Nat.le_refl 2)
 have hbuild : (Instr.build 61 #[(0, .int .i64 z), (1, .string s)]).run prog w3 = .ok (.agg [.int .i64 z, .string s].toArray) w3 := by
  simp [Instr.build, zeroValue61, runUnderlying61, Value.cells, Instr.fill]
 have hcost : CostF 1 [.int, .str] q q3 [.int z, .str s] := ((CostF.nil (R := 1) (q := q)).snoc co2 rfl (by decide)).snoc co3 n2 (by decide)
 have hfits : FitsF SN.test.fields q q3 [.int z, .str s] := ((FitsF.nil (all := SN.test.fields) (q := q)).snoc fi2 rfl).snoc fi3 rfl
 have good : QGood n0 p full (.st .test) q w1 (.agg [.int .i64 z, .string s].toArray) w3 := by
  refine ⟨.agg .test [.int z, .str s], q3, [.int .i64 z, .string s], rfl, ?_, h3, f13, n3.trans n2, tb3.trans tb2, CostF.st (s := .test) hcost V V, FitsF.st (sn := .test) hfits V V⟩
  simp only [Rep, RepF, SN.fields, SN.size, Ty.size, List.length_cons, List.length_nil, List.drop_succ_cons, List.drop_zero, List.take_succ_cons, List.take_zero, Nat.reduceAdd, true_and, and_true]
  exact ⟨hz, hs⟩
 have good2 := good.put f1 h.ln (Nat.le_refl _) hlt [.int .i64 z, .string s].toArray
 refine Cl V hbuild V (An V V hst (Ae (AA fun a ha => BE V ha V (Bg (IL : By prog 61 true 2) V (b3.setRow _).all) good2)))
end Go.Sx
namespace Go.Sx
open Go.Proofs Go.Proofs.Tryz
theorem IU {n0 p k : Nat} {full : List UInt8}  : Cq n0 p full 133 (.st .type) k := by
 intro q w h hk
 obtain ⟨Z, hz, hzl, hzs⟩ : ∃ Z : List Value, (∀ w, (zeroValue 63).run prog w = .ok (.agg Z.toArray) w) ∧ Z.length = Cy [1, 1, 2, 1] ∧ Z.length = SN.size .type := ⟨_, zeroValue63, rfl, rfl⟩
 refine AB 17 func133 V V V ?_
 refine Af (Aa (AO (hz _) V (Ae ?_)))
 have f1 : F0 w (w.alloc (.cells Z.toArray 63)) := Fr.alloc _ _ _
 have b1 : Blk (w.alloc (.cells Z.toArray 63)) w.heap.size Z 63 := AN
 show W _ _ _ _ _ _ (w.alloc (.cells Z.toArray 63))
 generalize w.alloc (.cells Z.toArray 63) = w1 at f1 b1 ⊢
 have h1 : QSt n0 p full q w1 := h.keep f1 (fun _ h => h.elim)
 refine Af (Aa (AO (hz _) V (Ar [(0, ptr p), (2, ptr w.heap.size), (3, ptr w1.heap.size)] ⟨V, V, V, trivial⟩ ?_)))
 have M := MQ.new (tid := 63) (sz := [1, 1, 2, 1]) (all := SN.fields .type) (R := IR .type - 1) h1 hzl
 show W _ _ _ _ _ _ (w1.alloc (.cells Z.toArray 63))
 generalize w1.alloc (.cells Z.toArray 63) = w2 at M ⊢
 refine Af (Aa (Ac V V (Aj call86 V V (J4 _ _ M.st (M.nest.trans hk)) ?_ Be)))
 intro _ _ g
 obtain ⟨c0, _, rfl, M, H⟩ := M.read rfl (by decide) g
 obtain ⟨_, hst, M⟩ := M.store (off := 0) 0 H Cj rfl rfl
 refine Ab V (J7 _ _ _) V (An V V hst (Ar [(0, ptr p), (2, ptr w.heap.size), (3, ptr w1.heap.size)] ⟨V, V, V, trivial⟩ ?_))
 refine Af (Aa (Ac V V (Aj call86 V V (J4 _ _ M.st (M.nest.trans hk)) ?_ Be)))
 intro _ _ g
 obtain ⟨c1, _, rfl, M, H⟩ := M.read rfl (by decide) g
 obtain ⟨_, hst, M⟩ := M.store (off := 1) 1 H Cj rfl rfl
 refine Ab V (JH _ _ _) V (An V V hst (Ar [(0, ptr p), (2, ptr w.heap.size), (3, ptr w1.heap.size)] ⟨V, V, V, trivial⟩ ?_))
 refine Af (Aa (Ac V V (Aj call134 V V (Q_ _ _ M.st (M.nest.trans hk)) ?_ Be)))
 intro _ _ g
 obtain ⟨c2, _, rfl, M, H⟩ := M.read rfl (by decide) g
 obtain ⟨_, hst, M⟩ := M.store (off := 2) 2 H IL rfl rfl
 refine Ab V (JK _ _ _) V (An V V hst (Ar [(0, ptr p), (2, ptr w.heap.size), (3, ptr w1.heap.size)] ⟨V, V, V, trivial⟩ ?_))
 refine Af (Aa (Ac V V (Aj call77 V V (Fe _ _ M.st (M.nest.trans hk)) ?_ Be)))
 intro _ _ g
 obtain ⟨c3, _, rfl, M, H⟩ := M.read rfl (by decide) g
 obtain ⟨_, hst, M⟩ := M.store (off := 4) 3 H Cc rfl rfl
 refine Ab V (JA _ _ _) V (An V V hst (Ar [(0, ptr p), (2, ptr w.heap.size), (3, ptr w1.heap.size)] ⟨V, V, V, trivial⟩ ?_))
 obtain ⟨e1, e2, e3, e4⟩ := M.finish (sn := .type) rfl rfl f1 h.ln (Nat.le_refl _) b1 D9 hzs
 exact Af (Aa (Ai V e1 V (An V V e2 (Ae (AA fun a ha => BE V ha V e3 e4)))))
theorem QR {n0 p k : Nat} {full : List UInt8}  : Cq n0 p full 87 (.list (.str)) k := by
 intro q w h hk
 obtain ⟨bytes, hei, hby⟩ : ∃ bytes, Ck prog 9 (Ty.size (.str)) bytes ∧ bytes ≤ 4096 := B7 (by kernel_rfl)
 refine AB 26 func87 V V V ?_
 refine Af (Aa (Ah V V (Ae (Af (Aa (Ah V V (Ae (Af (Aa (Ac V V (Aj call33 V V (JX h) ?_ Be)))))))))))
 intro v1 w1 g1
 obtain ⟨n, q1, rfl, L0, hlen, _⟩ := LQ.start (X := only p) (e := .str) (tid := 9) h rfl (fun b hb => by have : b = p := hb; subst this; exact Nat.lt_of_lt_of_le h.lp h.ln) g1
 refine Ah V V (Ae (Af (Af (Aa (Ah V V (Ae ?_))))))
 refine A1 (AW (ι := Nat × Value × World) (fun i => [(0, ptr p), (3, i.2.1), (4, .int .i64 ((n : Nat) : Int)), (5, .int .i64 ((i.1 : Nat) : Int))]) (fun i w' => w' = i.2.2 ∧ i.1 ≤ n ∧ ∃ l q', l.length = i.1 ∧ LQ n0 p full (only p) (.str) 9 w q q1 n l i.2.1 q' w') (fun i => n - i.1)
  (0, .slice none 0 0, w1) ⟨V, V, V, V, trivial⟩ ⟨rfl, Nat.zero_le _, [], q1, rfl, L0⟩ ?_)
 clear L0 g1
 rintro ⟨i, v, _⟩ w2 ⟨rfl, hi, l, q2, hl, L⟩
 simp only at hi hl L ⊢
 refine Af (Af (Aa (Ac V V (Ac V V (Al V V (Bh (c := decide (i < n)) (decide_eq_decide.2 Int.ofNat_lt.symm)) V (Ac V V ?_))))))
 obtain ⟨vb, vt, mm⟩ := L.st.mem
 by_cases hin : i < n
 rotate_left
 · rw [decide_eq_false hin]
   refine AY _ _ _ V (Ae (A9 V (AQ fun a ha => Aq (Aq (A3 (Ad ?_))))))
   exact A8 ha (Af (Aa (Ac V V (Ah V V (Ae (AA fun a ha => Au V ha V (L.done hlen (.inr (by omega)))))))))
 rw [decide_eq_true hin]
 refine Ag (j := 3) V V V (Ac V V (Ag (j := 3) V V V (As V V (Ag (j := 3) V V V (Ab V (BV _ _ _) V (Ag (j := 3) V V V (Ai V (A4 Ee (mm.blk.get V)) V (Ag (j := 3) V V V (Bt V V (AI V V V (Ae ?_)))))))))))
 cases hqb : q2.bad with
 | true =>
  refine A9 V (AQ fun a ha => Aq (Aq (A3 (Ad ?_))))
  exact A8 ha (Af (Aa (Ac V V (Ah V V (Ae (AA fun a ha => Au V ha V (L.done hlen (.inl hqb))))))))
 | false =>
 refine Ax V (A_ fun a ha => Ad ?_)
 refine A8 ha (Af (A1 (Aa (Ac V V (Ac V V (Aj call77 V V (Fe _ _ L.st (L.nest.trans hk)) ?_ Be))))))
 intro x w3 g
 obtain ⟨vb2, w4, v', w5, t, q', hr1, hr2, L', _⟩ := L.step (ty := 44) underlying44 hei hby (by decide) (by decide) hqb (by omega) g
 refine A7 V hr1 V (AU V V hr2 V (Ah V V (A2 fun a ha => Az (Ad ?_))))
 refine A8 ha (Aa (Ac V V (Al V V V V (Ah V V (A2 fun a ha => Ad ?_)))))
 exact ⟨(i + 1, v', w5), ha.weak ⟨rfl, rfl, rfl, congrArg some (AS (by have := L.lim; omega)), trivial⟩, ⟨rfl, by show i + 1 ≤ n; omega, l ++ [t], q', by simp [hl], L'⟩, by show n - (i + 1) < n - i; omega⟩
theorem QC {n0 p k : Nat} {full : List UInt8} (hX : Cq n0 p full 83 (.st .expr) k) : Cq n0 p full 82 (.list (.st .expr)) k := by
 intro q w h hk
 obtain ⟨bytes, hei, hby⟩ : ∃ bytes, Ck prog 66 (Ty.size (.st .expr)) bytes ∧ bytes ≤ 4096 := B7 (by kernel_rfl)
 refine AB 26 func82 V V V ?_
 refine Af (Aa (Ah V V (Ae (Af (Aa (Ah V V (Ae (Af (Aa (Ac V V (Aj call33 V V (JX h) ?_ Be)))))))))))
 intro v1 w1 g1
 obtain ⟨n, q1, rfl, L0, hlen, _⟩ := LQ.start (X := only p) (e := .st .expr) (tid := 66) h rfl (fun b hb => by have : b = p := hb; subst this; exact Nat.lt_of_lt_of_le h.lp h.ln) g1
 refine Ah V V (Ae (Af (Af (Aa (Ah V V (Ae ?_))))))
 refine A1 (AW (ι := Nat × Value × World) (fun i => [(0, ptr p), (3, i.2.1), (4, .int .i64 ((n : Nat) : Int)), (5, .int .i64 ((i.1 : Nat) : Int))]) (fun i w' => w' = i.2.2 ∧ i.1 ≤ n ∧ ∃ l q', l.length = i.1 ∧ LQ n0 p full (only p) (.st .expr) 66 w q q1 n l i.2.1 q' w') (fun i => n - i.1)
  (0, .slice none 0 0, w1) ⟨V, V, V, V, trivial⟩ ⟨rfl, Nat.zero_le _, [], q1, rfl, L0⟩ ?_)
 clear L0 g1
 rintro ⟨i, v, _⟩ w2 ⟨rfl, hi, l, q2, hl, L⟩
 simp only at hi hl L ⊢
 refine Af (Af (Aa (Ac V V (Ac V V (Al V V (Bh (c := decide (i < n)) (decide_eq_decide.2 Int.ofNat_lt.symm)) V (Ac V V ?_))))))
 obtain ⟨vb, vt, mm⟩ := L.st.mem
 by_cases hin : i < n
 rotate_left
 · rw [decide_eq_false hin]
   refine AY _ _ _ V (Ae (A9 V (AQ fun a ha => Aq (Aq (A3 (Ad ?_))))))
   exact A8 ha (Af (Aa (Ac V V (Ah V V (Ae (AA fun a ha => Au V ha V (L.done hlen (.inr (by omega)))))))))
 rw [decide_eq_true hin]
 refine Ag (j := 3) V V V (Ac V V (Ag (j := 3) V V V (As V V (Ag (j := 3) V V V (Ab V (BV _ _ _) V (Ag (j := 3) V V V (Ai V (A4 Ee (mm.blk.get V)) V (Ag (j := 3) V V V (Bt V V (AI V V V (Ae ?_)))))))))))
 cases hqb : q2.bad with
 | true =>
  refine A9 V (AQ fun a ha => Aq (Aq (A3 (Ad ?_))))
  exact A8 ha (Af (Aa (Ac V V (Ah V V (Ae (AA fun a ha => Au V ha V (L.done hlen (.inl hqb))))))))
 | false =>
 refine Ax V (A_ fun a ha => Ad ?_)
 refine A8 ha (Af (A1 (Aa (Ac V V (Ac V V (Aj call83 V V (hX _ _ L.st (L.nest.trans hk)) ?_ Be))))))
 intro x w3 g
 obtain ⟨vb2, w4, v', w5, t, q', hr1, hr2, L', _⟩ := L.step (ty := 64) underlying64 hei hby (by decide) (by decide) hqb (by omega) g
 refine A7 V hr1 V (AU V V hr2 V (Ah V V (A2 fun a ha => Az (Ad ?_))))
 refine A8 ha (Aa (Ac V V (Al V V V V (Ah V V (A2 fun a ha => Ad ?_)))))
 exact ⟨(i + 1, v', w5), ha.weak ⟨rfl, rfl, rfl, congrArg some (AS (by have := L.lim; omega)), trivial⟩, ⟨rfl, by show i + 1 ≤ n; omega, l ++ [t], q', by simp [hl], L'⟩, by show n - (i + 1) < n - i; omega⟩
theorem Nq {n0 p k : Nat} {full : List UInt8} (hI : Cq n0 p full 198 (.st .instr) k) : Cq n0 p full 132 (.list (.st .instr)) k := by
 intro q w h hk
 obtain ⟨bytes, hei, hby⟩ : ∃ bytes, Ck prog 72 (Ty.size (.st .instr)) bytes ∧ bytes ≤ 4096 := B7 (by kernel_rfl)
 refine AB 26 func132 V V V ?_
 refine Af (Aa (Ah V V (Ae (Af (Aa (Ah V V (Ae (Af (Aa (Ac V V (Aj call33 V V (JX h) ?_ Be)))))))))))
 intro v1 w1 g1
 obtain ⟨n, q1, rfl, L0, hlen, _⟩ := LQ.start (X := only p) (e := .st .instr) (tid := 72) h rfl (fun b hb => by have : b = p := hb; subst this; exact Nat.lt_of_lt_of_le h.lp h.ln) g1
 refine Ah V V (Ae (Af (Af (Aa (Ah V V (Ae ?_))))))
 refine A1 (AW (ι := Nat × Value × World) (fun i => [(0, ptr p), (3, i.2.1), (4, .int .i64 ((n : Nat) : Int)), (5, .int .i64 ((i.1 : Nat) : Int))]) (fun i w' => w' = i.2.2 ∧ i.1 ≤ n ∧ ∃ l q', l.length = i.1 ∧ LQ n0 p full (only p) (.st .instr) 72 w q q1 n l i.2.1 q' w') (fun i => n - i.1)
  (0, .slice none 0 0, w1) ⟨V, V, V, V, trivial⟩ ⟨rfl, Nat.zero_le _, [], q1, rfl, L0⟩ ?_)
 clear L0 g1
 rintro ⟨i, v, _⟩ w2 ⟨rfl, hi, l, q2, hl, L⟩
 simp only at hi hl L ⊢
 refine Af (Af (Aa (Ac V V (Ac V V (Al V V (Bh (c := decide (i < n)) (decide_eq_decide.2 Int.ofNat_lt.symm)) V (Ac V V ?_))))))
 obtain ⟨vb, vt, mm⟩ := L.st.mem
 by_cases hin : i < n
 rotate_left
 · rw [decide_eq_false hin]
   refine AY _ _ _ V (Ae (A9 V (AQ fun a ha => Aq (Aq (A3 (Ad ?_))))))
   exact A8 ha (Af (Aa (Ac V V (Ah V V (Ae (AA fun a ha => Au V ha V (L.done hlen (.inr (by omega)))))))))
 rw [decide_eq_true hin]
 refine Ag (j := 3) V V V (Ac V V (Ag (j := 3) V V V (As V V (Ag (j := 3) V V V (Ab V (BV _ _ _) V (Ag (j := 3) V V V (Ai V (A4 Ee (mm.blk.get V)) V (Ag (j := 3) V V V (Bt V V (AI V V V (Ae ?_)))))))))))
 cases hqb : q2.bad with
 | true =>
  refine A9 V (AQ fun a ha => Aq (Aq (A3 (Ad ?_))))
  exact A8 ha (Af (Aa (Ac V V (Ah V V (Ae (AA fun a ha => Au V ha V (L.done hlen (.inl hqb))))))))
 | false =>
 refine Ax V (A_ fun a ha => Ad ?_)
 refine A8 ha (Af (A1 (Aa (Ac V V (Ac V V (Aj call198 V V (hI _ _ L.st (L.nest.trans hk)) ?_ Be))))))
 intro x w3 g
 obtain ⟨vb2, w4, v', w5, t, q', hr1, hr2, L', _⟩ := L.step (ty := 56) underlying56 hei hby (by decide) (by decide) hqb (by omega) g
 refine A7 V hr1 V (AU V V hr2 V (Ah V V (A2 fun a ha => Az (Ad ?_))))
 refine A8 ha (Aa (Ac V V (Al V V V V (Ah V V (A2 fun a ha => Ad ?_)))))
 exact ⟨(i + 1, v', w5), ha.weak ⟨rfl, rfl, rfl, congrArg some (AS (by have := L.lim; omega)), trivial⟩, ⟨rfl, by show i + 1 ≤ n; omega, l ++ [t], q', by simp [hl], L'⟩, by show n - (i + 1) < n - i; omega⟩
theorem Qm {n0 p k : Nat} {full : List UInt8} (hX : Cq n0 p full 83 (.st .expr) k) : Cq n0 p full 242 (.list (.st .part)) k := by
 intro q w h hk
 obtain ⟨bytes, hei, hby⟩ : ∃ bytes, Ck prog 282 (Ty.size (.st .part)) bytes ∧ bytes ≤ 4096 := B7 (by kernel_rfl)
 obtain ⟨Z, hz, hzl⟩ : ∃ Z : List Value, (∀ w, (zeroValue 282).run prog w = .ok (.agg Z.toArray) w) ∧ Z.length = Cy [1, 1, 16] := ⟨_, zeroValue282, rfl⟩
 refine AB 35 func242 V V V ?_
 refine Af (Aa (Ah V V (Ae (Af (Aa (Ah V V (Ae (Af (Aa (Ac V V (Aj call33 V V (JX h) ?_ Be)))))))))))
 intro v1 w1 g1
 obtain ⟨n, q1, rfl, L0, hlen, _⟩ := LQ.start (X := only p) (e := .st .part) (tid := 282) h rfl (fun b hb => by have : b = p := hb; subst this; exact Nat.lt_of_lt_of_le h.lp h.ln) g1
 refine Ah V V (Ae (Af (Af (Aa (Ah V V (Ae ?_))))))
 refine A1 (AW (ι := Nat × Value × World) (fun i => [(0, ptr p), (3, i.2.1), (4, .int .i64 ((n : Nat) : Int)), (5, .int .i64 ((i.1 : Nat) : Int))]) (fun i w' => w' = i.2.2 ∧ i.1 ≤ n ∧ ∃ l q', l.length = i.1 ∧ LQ n0 p full (only p) (.st .part) 282 w q q1 n l i.2.1 q' w') (fun i => n - i.1)
  (0, .slice none 0 0, w1) ⟨V, V, V, V, trivial⟩ ⟨rfl, Nat.zero_le _, [], q1, rfl, L0⟩ ?_)
 clear L0 g1
 rintro ⟨i, v, _⟩ w2 ⟨rfl, hi, l, q2, hl, L⟩
 simp only at hi hl L ⊢
 refine Af (Af (Aa (Ac V V (Ac V V (Al V V (Bh (c := decide (i < n)) (decide_eq_decide.2 Int.ofNat_lt.symm)) V (Ac V V ?_))))))
 obtain ⟨vb, vt, mm⟩ := L.st.mem
 by_cases hin : i < n
 rotate_left
 · rw [decide_eq_false hin]
   refine AY _ _ _ V (Ae (A9 V (AQ fun a ha => Aq (Aq (A3 (Ad ?_))))))
   exact A8 ha (Af (Aa (Ac V V (Ah V V (Ae (AA fun a ha => Au V ha V (L.done hlen (.inr (by omega)))))))))
 rw [decide_eq_true hin]
 refine Ag (j := 3) V V V (Ac V V (Ag (j := 3) V V V (As V V (Ag (j := 3) V V V (Ab V (BV _ _ _) V (Ag (j := 3) V V V (Ai V (A4 Ee (mm.blk.get V)) V (Ag (j := 3) V V V (Bt V V (AI V V V (Ae ?_)))))))))))
 cases hqb : q2.bad with
 | true =>
  refine A9 V (AQ fun a ha => Aq (Aq (A3 (Ad ?_))))
  exact A8 ha (Af (Aa (Ac V V (Ah V V (Ae (AA fun a ha => Au V ha V (L.done hlen (.inl hqb))))))))
 | false =>
 refine Ax V (A_ fun a ha => Ad ?_)
 refine A8 ha (Af (A1 (Af (Aa (AO (hz _) V (Ar [(0, ptr p), (3, v), (4, .int .i64 ((n : Nat) : Int)), (5, .int .i64 ((i : Nat) : Int)), (6, ptr w2.heap.size)] ⟨V, V, V, V, V, trivial⟩ ?_))))))
 have N := MQ.new (tid := 282) (sz := [1, 1, 16]) (all := SN.fields .part) (R := IR .part - 1) L.st hzl
 show W _ _ _ _ _ _ (w2.alloc (.cells Z.toArray 282))
 generalize w2.alloc (.cells Z.toArray 282) = w3 at N ⊢
 refine Af (Aa (Ac V V (Aj call77 V V (Fe _ _ N.st (N.nest.trans (L.nest.trans hk))) ?_ Be)))
 intro _ _ g
 obtain ⟨c0, _, rfl, N, H⟩ := N.read rfl (by decide) g
 obtain ⟨_, hst, N⟩ := N.store (off := 0) 0 H Cc rfl rfl
 refine Ab V (Gx _ _ _) V (An V V hst (Ar [(0, ptr p), (3, v), (4, .int .i64 ((n : Nat) : Int)), (5, .int .i64 ((i : Nat) : Int)), (6, ptr w2.heap.size)] ⟨V, V, V, V, V, trivial⟩ ?_))
 refine Af (Aa (Ac V V (Aj call85 V V (IS _ _ N.st (N.nest.trans (L.nest.trans hk))) ?_ Be)))
 intro _ _ g
 obtain ⟨c1, _, rfl, N, H⟩ := N.read rfl (by decide) g
 obtain ⟨_, hst, N⟩ := N.store (off := 1) 1 H Dp rfl rfl
 refine Ab V (Fu _ _ _) V (An V V hst (Ar [(0, ptr p), (3, v), (4, .int .i64 ((n : Nat) : Int)), (5, .int .i64 ((i : Nat) : Int)), (6, ptr w2.heap.size)] ⟨V, V, V, V, V, trivial⟩ ?_))
 refine Af (Aa (Ac V V (Aj call83 V V (hX _ _ N.st (N.nest.trans (L.nest.trans hk))) ?_ Be)))
 intro _ _ g
 obtain ⟨c2, _, rfl, N, H⟩ := N.read rfl (by decide) g
 obtain ⟨_, hst, N⟩ := N.store (off := 2) 2 H BY rfl rfl
 refine Ab V (Ga _ _ _) V (An V V hst (Ar [(0, ptr p), (3, v), (4, .int .i64 ((n : Nat) : Int)), (5, .int .i64 ((i : Nat) : Int)), (6, ptr w2.heap.size)] ⟨V, V, V, V, V, trivial⟩ ?_))
 obtain ⟨hl6, _, _⟩ := N.val rfl
 have g := N.good (sn := .part) rfl rfl
 obtain ⟨vb2, w4, v', w5, t, q', hr1, hr2, L', _⟩ := L.step (ty := 57) underlying57 hei hby (by decide) (by decide) hqb (by omega) g
 refine Aa (Ac V V (Ai V (Bg Eq hl6 N.blk.all) V (A7 V hr1 V (AU V V hr2 V (Ah V V (A2 fun a ha => Az (Ad ?_)))))))
 refine A8 ha (Aa (Ac V V (Al V V V V (Ah V V (A2 fun a ha => Ad ?_)))))
 exact ⟨(i + 1, v', w5), ha.weak ⟨rfl, rfl, rfl, congrArg some (AS (by have := L.lim; omega)), trivial⟩, ⟨rfl, by show i + 1 ≤ n; omega, l ++ [t], q', by simp [hl], L'⟩, by show n - (i + 1) < n - i; omega⟩
theorem PG {n0 p k : Nat} {full : List UInt8} (hX : Cq n0 p full 83 (.st .expr) k) (hI : Cq n0 p full 198 (.st .instr) k) : Cq n0 p full 131 (.list (.st .param)) k := by
 intro q w h hk
 obtain ⟨bytes, hei, hby⟩ : ∃ bytes, Ck prog 216 (Ty.size (.st .param)) bytes ∧ bytes ≤ 4096 := B7 (by kernel_rfl)
 obtain ⟨Z, hz, hzl⟩ : ∃ Z : List Value, (∀ w, (zeroValue 216).run prog w = .ok (.agg Z.toArray) w) ∧ Z.length = Cy [1, 5, 1, 16, 1] := ⟨_, zeroValue216, rfl⟩
 refine AB 41 func131 V V V ?_
 refine Af (Aa (Ah V V (Ae (Af (Aa (Ah V V (Ae (Af (Aa (Ac V V (Aj call33 V V (JX h) ?_ Be)))))))))))
 intro v1 w1 g1
 obtain ⟨n, q1, rfl, L0, hlen, _⟩ := LQ.start (X := only p) (e := .st .param) (tid := 216) h rfl (fun b hb => by have : b = p := hb; subst this; exact Nat.lt_of_lt_of_le h.lp h.ln) g1
 refine Ah V V (Ae (Af (Af (Aa (Ah V V (Ae ?_))))))
 refine A1 (AW (ι := Nat × Value × World) (fun i => [(0, ptr p), (3, i.2.1), (4, .int .i64 ((n : Nat) : Int)), (5, .int .i64 ((i.1 : Nat) : Int))]) (fun i w' => w' = i.2.2 ∧ i.1 ≤ n ∧ ∃ l q', l.length = i.1 ∧ LQ n0 p full (only p) (.st .param) 216 w q q1 n l i.2.1 q' w') (fun i => n - i.1)
  (0, .slice none 0 0, w1) ⟨V, V, V, V, trivial⟩ ⟨rfl, Nat.zero_le _, [], q1, rfl, L0⟩ ?_)
 clear L0 g1
 rintro ⟨i, v, _⟩ w2 ⟨rfl, hi, l, q2, hl, L⟩
 simp only at hi hl L ⊢
 refine Af (Af (Aa (Ac V V (Ac V V (Al V V (Bh (c := decide (i < n)) (decide_eq_decide.2 Int.ofNat_lt.symm)) V (Ac V V ?_))))))
 obtain ⟨vb, vt, mm⟩ := L.st.mem
 by_cases hin : i < n
 rotate_left
 · rw [decide_eq_false hin]
   refine AY _ _ _ V (Ae (A9 V (AQ fun a ha => Aq (Aq (A3 (Ad ?_))))))
   exact A8 ha (Af (Aa (Ac V V (Ah V V (Ae (AA fun a ha => Au V ha V (L.done hlen (.inr (by omega)))))))))
 rw [decide_eq_true hin]
 refine Ag (j := 3) V V V (Ac V V (Ag (j := 3) V V V (As V V (Ag (j := 3) V V V (Ab V (BV _ _ _) V (Ag (j := 3) V V V (Ai V (A4 Ee (mm.blk.get V)) V (Ag (j := 3) V V V (Bt V V (AI V V V (Ae ?_)))))))))))
 cases hqb : q2.bad with
 | true =>
  refine A9 V (AQ fun a ha => Aq (Aq (A3 (Ad ?_))))
  exact A8 ha (Af (Aa (Ac V V (Ah V V (Ae (AA fun a ha => Au V ha V (L.done hlen (.inl hqb))))))))
 | false =>
 refine Ax V (A_ fun a ha => Ad ?_)
 refine A8 ha (Af (A1 (Af (Aa (AO (hz _) V (Ar [(0, ptr p), (3, v), (4, .int .i64 ((n : Nat) : Int)), (5, .int .i64 ((i : Nat) : Int)), (6, ptr w2.heap.size)] ⟨V, V, V, V, V, trivial⟩ ?_))))))
 have N := MQ.new (tid := 216) (sz := [1, 5, 1, 16, 1]) (all := SN.fields .param) (R := IR .param - 1) L.st hzl
 show W _ _ _ _ _ _ (w2.alloc (.cells Z.toArray 216))
 generalize w2.alloc (.cells Z.toArray 216) = w3 at N ⊢
 refine Af (Aa (Ac V V (Aj call77 V V (Fe _ _ N.st (N.nest.trans (L.nest.trans hk))) ?_ Be)))
 intro _ _ g
 obtain ⟨c0, _, rfl, N, H⟩ := N.read rfl (by decide) g
 obtain ⟨_, hst, N⟩ := N.store (off := 0) 0 H Cc rfl rfl
 refine Ab V (Gg _ _ _) V (An V V hst (Ar [(0, ptr p), (3, v), (4, .int .i64 ((n : Nat) : Int)), (5, .int .i64 ((i : Nat) : Int)), (6, ptr w2.heap.size)] ⟨V, V, V, V, V, trivial⟩ ?_))
 refine Af (Aa (Ac V V (Aj call133 V V (IU _ _ N.st (N.nest.trans (L.nest.trans hk))) ?_ Be)))
 intro _ _ g
 obtain ⟨c1, _, rfl, N, H⟩ := N.read rfl (by decide) g
 obtain ⟨_, hst, N⟩ := N.store (off := 1) 1 H D9 rfl rfl
 refine Ab V (Gm _ _ _) V (An V V hst (Ar [(0, ptr p), (3, v), (4, .int .i64 ((n : Nat) : Int)), (5, .int .i64 ((i : Nat) : Int)), (6, ptr w2.heap.size)] ⟨V, V, V, V, V, trivial⟩ ?_))
 refine Af (Aa (Ac V V (Aj call85 V V (IS _ _ N.st (N.nest.trans (L.nest.trans hk))) ?_ Be)))
 intro _ _ g
 obtain ⟨c2, _, rfl, N, H⟩ := N.read rfl (by decide) g
 obtain ⟨_, hst, N⟩ := N.store (off := 6) 2 H Dp rfl rfl
 refine Ab V (F8 _ _ _) V (An V V hst (Ar [(0, ptr p), (3, v), (4, .int .i64 ((n : Nat) : Int)), (5, .int .i64 ((i : Nat) : Int)), (6, ptr w2.heap.size)] ⟨V, V, V, V, V, trivial⟩ ?_))
 refine Af (Aa (Ac V V (Aj call83 V V (hX _ _ N.st (N.nest.trans (L.nest.trans hk))) ?_ Be)))
 intro _ _ g
 obtain ⟨c3, _, rfl, N, H⟩ := N.read rfl (by decide) g
 obtain ⟨_, hst, N⟩ := N.store (off := 7) 3 H BY rfl rfl
 refine Ab V (FB _ _ _) V (An V V hst (Ar [(0, ptr p), (3, v), (4, .int .i64 ((n : Nat) : Int)), (5, .int .i64 ((i : Nat) : Int)), (6, ptr w2.heap.size)] ⟨V, V, V, V, V, trivial⟩ ?_))
 refine Af (Aa (Ac V V (Aj call132 V V ((Nq hI) _ _ N.st (N.nest.trans (L.nest.trans hk))) ?_ Be)))
 intro _ _ g
 obtain ⟨c4, _, rfl, N, H⟩ := N.read rfl (by decide) g
 obtain ⟨_, hst, N⟩ := N.store (off := 23) 4 H Dt rfl rfl
 refine Ab V (Gq _ _ _) V (An V V hst (Ar [(0, ptr p), (3, v), (4, .int .i64 ((n : Nat) : Int)), (5, .int .i64 ((i : Nat) : Int)), (6, ptr w2.heap.size)] ⟨V, V, V, V, V, trivial⟩ ?_))
 obtain ⟨hl6, _, _⟩ := N.val rfl
 have g := N.good (sn := .param) rfl rfl
 obtain ⟨vb2, w4, v', w5, t, q', hr1, hr2, L', _⟩ := L.step (ty := 68) underlying68 hei hby (by decide) (by decide) hqb (by omega) g
 refine Aa (Ac V V (Ai V (Bg D2 hl6 N.blk.all) V (A7 V hr1 V (AU V V hr2 V (Ah V V (A2 fun a ha => Az (Ad ?_)))))))
 refine A8 ha (Aa (Ac V V (Al V V V V (Ah V V (A2 fun a ha => Ad ?_)))))
 exact ⟨(i + 1, v', w5), ha.weak ⟨rfl, rfl, rfl, congrArg some (AS (by have := L.lim; omega)), trivial⟩, ⟨rfl, by show i + 1 ≤ n; omega, l ++ [t], q', by simp [hl], L'⟩, by show n - (i + 1) < n - i; omega⟩
theorem PR {n0 p k : Nat} {full : List UInt8} (hX : Cq n0 p full 83 (.st .expr) k) : Cq n0 p full 243 (.list (.st .sort)) k := by
 intro q w h hk
 obtain ⟨bytes, hei, hby⟩ : ∃ bytes, Ck prog 286 (Ty.size (.st .sort)) bytes ∧ bytes ≤ 4096 := B7 (by kernel_rfl)
 obtain ⟨Z, hz, hzl⟩ : ∃ Z : List Value, (∀ w, (zeroValue 286).run prog w = .ok (.agg Z.toArray) w) ∧ Z.length = Cy [16, 1, 1, 1] := ⟨_, zeroValue286, rfl⟩
 refine AB 38 func243 V V V ?_
 refine Af (Aa (Ah V V (Ae (Af (Aa (Ah V V (Ae (Af (Aa (Ac V V (Aj call33 V V (JX h) ?_ Be)))))))))))
 intro v1 w1 g1
 obtain ⟨n, q1, rfl, L0, hlen, _⟩ := LQ.start (X := only p) (e := .st .sort) (tid := 286) h rfl (fun b hb => by have : b = p := hb; subst this; exact Nat.lt_of_lt_of_le h.lp h.ln) g1
 refine Ah V V (Ae (Af (Af (Aa (Ah V V (Ae ?_))))))
 refine A1 (AW (ι := Nat × Value × World) (fun i => [(0, ptr p), (3, i.2.1), (4, .int .i64 ((n : Nat) : Int)), (5, .int .i64 ((i.1 : Nat) : Int))]) (fun i w' => w' = i.2.2 ∧ i.1 ≤ n ∧ ∃ l q', l.length = i.1 ∧ LQ n0 p full (only p) (.st .sort) 286 w q q1 n l i.2.1 q' w') (fun i => n - i.1)
  (0, .slice none 0 0, w1) ⟨V, V, V, V, trivial⟩ ⟨rfl, Nat.zero_le _, [], q1, rfl, L0⟩ ?_)
 clear L0 g1
 rintro ⟨i, v, _⟩ w2 ⟨rfl, hi, l, q2, hl, L⟩
 simp only at hi hl L ⊢
 refine Af (Af (Aa (Ac V V (Ac V V (Al V V (Bh (c := decide (i < n)) (decide_eq_decide.2 Int.ofNat_lt.symm)) V (Ac V V ?_))))))
 obtain ⟨vb, vt, mm⟩ := L.st.mem
 by_cases hin : i < n
 rotate_left
 · rw [decide_eq_false hin]
   refine AY _ _ _ V (Ae (A9 V (AQ fun a ha => Aq (Aq (A3 (Ad ?_))))))
   exact A8 ha (Af (Aa (Ac V V (Ah V V (Ae (AA fun a ha => Au V ha V (L.done hlen (.inr (by omega)))))))))
 rw [decide_eq_true hin]
 refine Ag (j := 3) V V V (Ac V V (Ag (j := 3) V V V (As V V (Ag (j := 3) V V V (Ab V (BV _ _ _) V (Ag (j := 3) V V V (Ai V (A4 Ee (mm.blk.get V)) V (Ag (j := 3) V V V (Bt V V (AI V V V (Ae ?_)))))))))))
 cases hqb : q2.bad with
 | true =>
  refine A9 V (AQ fun a ha => Aq (Aq (A3 (Ad ?_))))
  exact A8 ha (Af (Aa (Ac V V (Ah V V (Ae (AA fun a ha => Au V ha V (L.done hlen (.inl hqb))))))))
 | false =>
 refine Ax V (A_ fun a ha => Ad ?_)
 refine A8 ha (Af (A1 (Af (Aa (AO (hz _) V (Ar [(0, ptr p), (3, v), (4, .int .i64 ((n : Nat) : Int)), (5, .int .i64 ((i : Nat) : Int)), (6, ptr w2.heap.size)] ⟨V, V, V, V, V, trivial⟩ ?_))))))
 have N := MQ.new (tid := 286) (sz := [16, 1, 1, 1]) (all := SN.fields .sort) (R := IR .sort - 1) L.st hzl
 show W _ _ _ _ _ _ (w2.alloc (.cells Z.toArray 286))
 generalize w2.alloc (.cells Z.toArray 286) = w3 at N ⊢
 refine Af (Aa (Ac V V (Aj call83 V V (hX _ _ N.st (N.nest.trans (L.nest.trans hk))) ?_ Be)))
 intro _ _ g
 obtain ⟨c0, _, rfl, N, H⟩ := N.read rfl (by decide) g
 obtain ⟨_, hst, N⟩ := N.store (off := 0) 0 H BY rfl rfl
 refine Ab V (FT _ _ _) V (An V V hst (Ar [(0, ptr p), (3, v), (4, .int .i64 ((n : Nat) : Int)), (5, .int .i64 ((i : Nat) : Int)), (6, ptr w2.heap.size)] ⟨V, V, V, V, V, trivial⟩ ?_))
 refine Af (Aa (Ac V V (Aj call85 V V (IS _ _ N.st (N.nest.trans (L.nest.trans hk))) ?_ Be)))
 intro _ _ g
 obtain ⟨c1, _, rfl, N, H⟩ := N.read rfl (by decide) g
 obtain ⟨_, hst, N⟩ := N.store (off := 16) 1 H Dp rfl rfl
 refine Ab V (Fy _ _ _) V (An V V hst (Ar [(0, ptr p), (3, v), (4, .int .i64 ((n : Nat) : Int)), (5, .int .i64 ((i : Nat) : Int)), (6, ptr w2.heap.size)] ⟨V, V, V, V, V, trivial⟩ ?_))
 refine Af (Aa (Ac V V (Aj call85 V V (IS _ _ N.st (N.nest.trans (L.nest.trans hk))) ?_ Be)))
 intro _ _ g
 obtain ⟨c2, _, rfl, N, H⟩ := N.read rfl (by decide) g
 obtain ⟨_, hst, N⟩ := N.store (off := 17) 2 H Dp rfl rfl
 refine Ab V (Gl _ _ _) V (An V V hst (Ar [(0, ptr p), (3, v), (4, .int .i64 ((n : Nat) : Int)), (5, .int .i64 ((i : Nat) : Int)), (6, ptr w2.heap.size)] ⟨V, V, V, V, V, trivial⟩ ?_))
 refine Af (Aa (Ac V V (Aj call77 V V (Fe _ _ N.st (N.nest.trans (L.nest.trans hk))) ?_ Be)))
 intro _ _ g
 obtain ⟨c3, _, rfl, N, H⟩ := N.read rfl (by decide) g
 obtain ⟨_, hst, N⟩ := N.store (off := 18) 3 H Cc rfl rfl
 refine Ab V (Gy _ _ _) V (An V V hst (Ar [(0, ptr p), (3, v), (4, .int .i64 ((n : Nat) : Int)), (5, .int .i64 ((i : Nat) : Int)), (6, ptr w2.heap.size)] ⟨V, V, V, V, V, trivial⟩ ?_))
 obtain ⟨hl6, _, _⟩ := N.val rfl
 have g := N.good (sn := .sort) rfl rfl
 obtain ⟨vb2, w4, v', w5, t, q', hr1, hr2, L', _⟩ := L.step (ty := 67) underlying67 hei hby (by decide) (by decide) hqb (by omega) g
 refine Aa (Ac V V (Ai V (Bg DJ hl6 N.blk.all) V (A7 V hr1 V (AU V V hr2 V (Ah V V (A2 fun a ha => Az (Ad ?_)))))))
 refine A8 ha (Aa (Ac V V (Al V V V V (Ah V V (A2 fun a ha => Ad ?_)))))
 exact ⟨(i + 1, v', w5), ha.weak ⟨rfl, rfl, rfl, congrArg some (AS (by have := L.lim; omega)), trivial⟩, ⟨rfl, by show i + 1 ≤ n; omega, l ++ [t], q', by simp [hl], L'⟩, by show n - (i + 1) < n - i; omega⟩
theorem RZ {n0 p k : Nat} {full : List UInt8} (hX : Cq n0 p full 83 (.st .expr) k) (hI : Cq n0 p full 198 (.st .instr) k) : Cq n0 p full 79 (.st .template) k := by
 intro q w h hk
 obtain ⟨Z, hz, hzl, hzs⟩ : ∃ Z : List Value, (∀ w, (zeroValue 74).run prog w = .ok (.agg Z.toArray) w) ∧ Z.length = Cy [1, 1, 1, 1, 1, 1, 1, 1, 1, 1, 1, 1] ∧ Z.length = SN.size .template := ⟨_, zeroValue74, rfl, rfl⟩
 refine AB 41 func79 V V V ?_
 refine Af (Aa (AO (hz _) V (Ae ?_)))
 have f1 : F0 w (w.alloc (.cells Z.toArray 74)) := Fr.alloc _ _ _
 have b1 : Blk (w.alloc (.cells Z.toArray 74)) w.heap.size Z 74 := AN
 show W _ _ _ _ _ _ (w.alloc (.cells Z.toArray 74))
 generalize w.alloc (.cells Z.toArray 74) = w1 at f1 b1 ⊢
 have h1 : QSt n0 p full q w1 := h.keep f1 (fun _ h => h.elim)
 refine Af (Aa (AO (hz _) V (Ar [(0, ptr p), (2, ptr w.heap.size), (3, ptr w1.heap.size)] ⟨V, V, V, trivial⟩ ?_)))
 have M := MQ.new (tid := 74) (sz := [1, 1, 1, 1, 1, 1, 1, 1, 1, 1, 1, 1]) (all := SN.fields .template) (R := IR .template - 1) h1 hzl
 show W _ _ _ _ _ _ (w1.alloc (.cells Z.toArray 74))
 generalize w1.alloc (.cells Z.toArray 74) = w2 at M ⊢
 refine Af (Aa (Ac V V (Aj call82 V V ((QC hX) _ _ M.st (M.nest.trans hk)) ?_ Be)))
 intro _ _ g
 obtain ⟨c0, _, rfl, M, H⟩ := M.read rfl (by decide) g
 obtain ⟨_, hst, M⟩ := M.store (off := 0) 0 H Eh rfl rfl
 refine Ab V (HQ _ _ _) V (An V V hst (Ar [(0, ptr p), (2, ptr w.heap.size), (3, ptr w1.heap.size)] ⟨V, V, V, trivial⟩ ?_))
 refine Af (Aa (Ac V V (Aj call77 V V (Fe _ _ M.st (M.nest.trans hk)) ?_ Be)))
 intro _ _ g
 obtain ⟨c1, _, rfl, M, H⟩ := M.read rfl (by decide) g
 obtain ⟨_, hst, M⟩ := M.store (off := 1) 1 H Cc rfl rfl
 refine Ab V (HD _ _ _) V (An V V hst (Ar [(0, ptr p), (2, ptr w.heap.size), (3, ptr w1.heap.size)] ⟨V, V, V, trivial⟩ ?_))
 refine Af (Aa (Ac V V (Aj call87 V V (QR _ _ M.st (M.nest.trans hk)) ?_ Be)))
 intro _ _ g
 obtain ⟨c2, _, rfl, M, H⟩ := M.read rfl (by decide) g
 obtain ⟨_, hst, M⟩ := M.store (off := 2) 2 H D_ rfl rfl
 refine Ab V (HE _ _ _) V (An V V hst (Ar [(0, ptr p), (2, ptr w.heap.size), (3, ptr w1.heap.size)] ⟨V, V, V, trivial⟩ ?_))
 refine Af (Aa (Ac V V (Aj call85 V V (IS _ _ M.st (M.nest.trans hk)) ?_ Be)))
 intro _ _ g
 obtain ⟨c3, _, rfl, M, H⟩ := M.read rfl (by decide) g
 obtain ⟨_, hst, M⟩ := M.store (off := 3) 3 H Dp rfl rfl
 refine Ab V (Hs _ _ _) V (An V V hst (Ar [(0, ptr p), (2, ptr w.heap.size), (3, ptr w1.heap.size)] ⟨V, V, V, trivial⟩ ?_))
 refine Af (Aa (Ac V V (Aj call77 V V (Fe _ _ M.st (M.nest.trans hk)) ?_ Be)))
 intro _ _ g
 obtain ⟨c4, _, rfl, M, H⟩ := M.read rfl (by decide) g
 obtain ⟨_, hst, M⟩ := M.store (off := 4) 4 H Cc rfl rfl
 refine Ab V (Hu _ _ _) V (An V V hst (Ar [(0, ptr p), (2, ptr w.heap.size), (3, ptr w1.heap.size)] ⟨V, V, V, trivial⟩ ?_))
 refine Af (Aa (Ac V V (Aj call131 V V ((PG hX hI) _ _ M.st (M.nest.trans hk)) ?_ Be)))
 intro _ _ g
 obtain ⟨c5, _, rfl, M, H⟩ := M.read rfl (by decide) g
 obtain ⟨_, hst, M⟩ := M.store (off := 5) 5 H GT rfl rfl
 refine Ab V (HC _ _ _) V (An V V hst (Ar [(0, ptr p), (2, ptr w.heap.size), (3, ptr w1.heap.size)] ⟨V, V, V, trivial⟩ ?_))
 refine Af (Aa (Ac V V (Aj call132 V V ((Nq hI) _ _ M.st (M.nest.trans hk)) ?_ Be)))
 intro _ _ g
 obtain ⟨c6, _, rfl, M, H⟩ := M.read rfl (by decide) g
 obtain ⟨_, hst, M⟩ := M.store (off := 6) 6 H Dt rfl rfl
 refine Ab V (Hx _ _ _) V (An V V hst (Ar [(0, ptr p), (2, ptr w.heap.size), (3, ptr w1.heap.size)] ⟨V, V, V, trivial⟩ ?_))
 refine Af (Aa (Ac V V (Aj call77 V V (Fe _ _ M.st (M.nest.trans hk)) ?_ Be)))
 intro _ _ g
 obtain ⟨c7, _, rfl, M, H⟩ := M.read rfl (by decide) g
 obtain ⟨_, hst, M⟩ := M.store (off := 7) 7 H Cc rfl rfl
 refine Ab V (HU _ _ _) V (An V V hst (Ar [(0, ptr p), (2, ptr w.heap.size), (3, ptr w1.heap.size)] ⟨V, V, V, trivial⟩ ?_))
 refine Af (Aa (Ac V V (Aj call86 V V (J4 _ _ M.st (M.nest.trans hk)) ?_ Be)))
 intro _ _ g
 obtain ⟨c8, _, rfl, M, H⟩ := M.read rfl (by decide) g
 obtain ⟨_, hst, M⟩ := M.store (off := 8) 8 H Cj rfl rfl
 refine Ab V (H_ _ _ _) V (An V V hst (Ar [(0, ptr p), (2, ptr w.heap.size), (3, ptr w1.heap.size)] ⟨V, V, V, trivial⟩ ?_))
 refine Af (Aa (Ac V V (Aj call86 V V (J4 _ _ M.st (M.nest.trans hk)) ?_ Be)))
 intro _ _ g
 obtain ⟨c9, _, rfl, M, H⟩ := M.read rfl (by decide) g
 obtain ⟨_, hst, M⟩ := M.store (off := 9) 9 H Cj rfl rfl
 refine Ab V (HP _ _ _) V (An V V hst (Ar [(0, ptr p), (2, ptr w.heap.size), (3, ptr w1.heap.size)] ⟨V, V, V, trivial⟩ ?_))
 refine Af (Aa (Ac V V (Aj call86 V V (J4 _ _ M.st (M.nest.trans hk)) ?_ Be)))
 intro _ _ g
 obtain ⟨c10, _, rfl, M, H⟩ := M.read rfl (by decide) g
 obtain ⟨_, hst, M⟩ := M.store (off := 10) 10 H Cj rfl rfl
 refine Ab V (F_ _ _ _) V (An V V hst (Ar [(0, ptr p), (2, ptr w.heap.size), (3, ptr w1.heap.size)] ⟨V, V, V, trivial⟩ ?_))
 refine Af (Aa (Ac V V (Aj call86 V V (J4 _ _ M.st (M.nest.trans hk)) ?_ Be)))
 intro _ _ g
 obtain ⟨c11, _, rfl, M, H⟩ := M.read rfl (by decide) g
 obtain ⟨_, hst, M⟩ := M.store (off := 11) 11 H Cj rfl rfl
 refine Ab V (Gp _ _ _) V (An V V hst (Ar [(0, ptr p), (2, ptr w.heap.size), (3, ptr w1.heap.size)] ⟨V, V, V, trivial⟩ ?_))
 obtain ⟨e1, e2, e3, e4⟩ := M.finish (sn := .template) rfl rfl f1 h.ln (Nat.le_refl _) b1 Hd hzs
 exact Af (Aa (Ai V e1 V (An V V e2 (Ae (AA fun a ha => BE V ha V e3 e4)))))
theorem Sb {n0 p k : Nat} {full : List UInt8} (hX : Cq n0 p full 83 (.st .expr) k) (hI : Cq n0 p full 198 (.st .instr) k) : Cq n0 p full 80 (.st .dfn) k := by
 intro q w h hk
 obtain ⟨Z, hz, hzl, hzs⟩ : ∃ Z : List Value, (∀ w, (zeroValue 140).run prog w = .ok (.agg Z.toArray) w) ∧ Z.length = Cy [1, 1, 5, 16, 1, 1, 1, 1] ∧ Z.length = SN.size .dfn := ⟨_, zeroValue140, rfl, rfl⟩
 refine AB 29 func80 V V V ?_
 refine Af (Aa (AO (hz _) V (Ae ?_)))
 have f1 : F0 w (w.alloc (.cells Z.toArray 140)) := Fr.alloc _ _ _
 have b1 : Blk (w.alloc (.cells Z.toArray 140)) w.heap.size Z 140 := AN
 show W _ _ _ _ _ _ (w.alloc (.cells Z.toArray 140))
 generalize w.alloc (.cells Z.toArray 140) = w1 at f1 b1 ⊢
 have h1 : QSt n0 p full q w1 := h.keep f1 (fun _ h => h.elim)
 refine Af (Aa (AO (hz _) V (Ar [(0, ptr p), (2, ptr w.heap.size), (3, ptr w1.heap.size)] ⟨V, V, V, trivial⟩ ?_)))
 have M := MQ.new (tid := 140) (sz := [1, 1, 5, 16, 1, 1, 1, 1]) (all := SN.fields .dfn) (R := IR .dfn - 1) h1 hzl
 show W _ _ _ _ _ _ (w1.alloc (.cells Z.toArray 140))
 generalize w1.alloc (.cells Z.toArray 140) = w2 at M ⊢
 refine Af (Aa (Ac V V (Aj call77 V V (Fe _ _ M.st (M.nest.trans hk)) ?_ Be)))
 intro _ _ g
 obtain ⟨c0, _, rfl, M, H⟩ := M.read rfl (by decide) g
 obtain ⟨_, hst, M⟩ := M.store (off := 0) 0 H Cc rfl rfl
 refine Ab V (FO _ _ _) V (An V V hst (Ar [(0, ptr p), (2, ptr w.heap.size), (3, ptr w1.heap.size)] ⟨V, V, V, trivial⟩ ?_))
 refine Af (Aa (Ac V V (Aj call131 V V ((PG hX hI) _ _ M.st (M.nest.trans hk)) ?_ Be)))
 intro _ _ g
 obtain ⟨c1, _, rfl, M, H⟩ := M.read rfl (by decide) g
 obtain ⟨_, hst, M⟩ := M.store (off := 1) 1 H GT rfl rfl
 refine Ab V (Gf _ _ _) V (An V V hst (Ar [(0, ptr p), (2, ptr w.heap.size), (3, ptr w1.heap.size)] ⟨V, V, V, trivial⟩ ?_))
 refine Af (Aa (Ac V V (Aj call133 V V (IU _ _ M.st (M.nest.trans hk)) ?_ Be)))
 intro _ _ g
 obtain ⟨c2, _, rfl, M, H⟩ := M.read rfl (by decide) g
 obtain ⟨_, hst, M⟩ := M.store (off := 2) 2 H D9 rfl rfl
 refine Ab V (Gc _ _ _) V (An V V hst (Ar [(0, ptr p), (2, ptr w.heap.size), (3, ptr w1.heap.size)] ⟨V, V, V, trivial⟩ ?_))
 refine Af (Aa (Ac V V (Aj call83 V V (hX _ _ M.st (M.nest.trans hk)) ?_ Be)))
 intro _ _ g
 obtain ⟨c3, _, rfl, M, H⟩ := M.read rfl (by decide) g
 obtain ⟨_, hst, M⟩ := M.store (off := 7) 3 H BY rfl rfl
 refine Ab V (FZ _ _ _) V (An V V hst (Ar [(0, ptr p), (2, ptr w.heap.size), (3, ptr w1.heap.size)] ⟨V, V, V, trivial⟩ ?_))
 refine Af (Aa (Ac V V (Aj call77 V V (Fe _ _ M.st (M.nest.trans hk)) ?_ Be)))
 intro _ _ g
 obtain ⟨c4, _, rfl, M, H⟩ := M.read rfl (by decide) g
 obtain ⟨_, hst, M⟩ := M.store (off := 23) 4 H Cc rfl rfl
 refine Ab V (FS _ _ _) V (An V V hst (Ar [(0, ptr p), (2, ptr w.heap.size), (3, ptr w1.heap.size)] ⟨V, V, V, trivial⟩ ?_))
 refine Af (Aa (Ac V V (Aj call86 V V (J4 _ _ M.st (M.nest.trans hk)) ?_ Be)))
 intro _ _ g
 obtain ⟨c5, _, rfl, M, H⟩ := M.read rfl (by decide) g
 obtain ⟨_, hst, M⟩ := M.store (off := 24) 5 H Cj rfl rfl
 refine Ab V (Gw _ _ _) V (An V V hst (Ar [(0, ptr p), (2, ptr w.heap.size), (3, ptr w1.heap.size)] ⟨V, V, V, trivial⟩ ?_))
 refine Af (Aa (Ac V V (Aj call86 V V (J4 _ _ M.st (M.nest.trans hk)) ?_ Be)))
 intro _ _ g
 obtain ⟨c6, _, rfl, M, H⟩ := M.read rfl (by decide) g
 obtain ⟨_, hst, M⟩ := M.store (off := 25) 6 H Cj rfl rfl
 refine Ab V (FA _ _ _) V (An V V hst (Ar [(0, ptr p), (2, ptr w.heap.size), (3, ptr w1.heap.size)] ⟨V, V, V, trivial⟩ ?_))
 refine Af (Aa (Ac V V (Aj call86 V V (J4 _ _ M.st (M.nest.trans hk)) ?_ Be)))
 intro _ _ g
 obtain ⟨c7, _, rfl, M, H⟩ := M.read rfl (by decide) g
 obtain ⟨_, hst, M⟩ := M.store (off := 26) 7 H Cj rfl rfl
 refine Ab V (Gu _ _ _) V (An V V hst (Ar [(0, ptr p), (2, ptr w.heap.size), (3, ptr w1.heap.size)] ⟨V, V, V, trivial⟩ ?_))
 obtain ⟨e1, e2, e3, e4⟩ := M.finish (sn := .dfn) rfl rfl f1 h.ln (Nat.le_refl _) b1 Et hzs
 exact Af (Aa (Ai V e1 V (An V V e2 (Ae (AA fun a ha => BE V ha V e3 e4)))))
theorem Mf {n0 p k : Nat} {full : List UInt8} (hX : Cq n0 p full 83 (.st .expr) k) (hI : Cq n0 p full 198 (.st .instr) k) : Cq n0 p full 81 (.st .global) k := by
 intro q w h hk
 obtain ⟨Z, hz, hzl, hzs⟩ : ∃ Z : List Value, (∀ w, (zeroValue 144).run prog w = .ok (.agg Z.toArray) w) ∧ Z.length = Cy [1, 1, 5, 1, 16, 1, 1, 1, 1, 1] ∧ Z.length = SN.size .global := ⟨_, zeroValue144, rfl, rfl⟩
 refine AB 35 func81 V V V ?_
 refine Af (Aa (AO (hz _) V (Ae ?_)))
 have f1 : F0 w (w.alloc (.cells Z.toArray 144)) := Fr.alloc _ _ _
 have b1 : Blk (w.alloc (.cells Z.toArray 144)) w.heap.size Z 144 := AN
 show W _ _ _ _ _ _ (w.alloc (.cells Z.toArray 144))
 generalize w.alloc (.cells Z.toArray 144) = w1 at f1 b1 ⊢
 have h1 : QSt n0 p full q w1 := h.keep f1 (fun _ h => h.elim)
 refine Af (Aa (AO (hz _) V (Ar [(0, ptr p), (2, ptr w.heap.size), (3, ptr w1.heap.size)] ⟨V, V, V, trivial⟩ ?_)))
 have M := MQ.new (tid := 144) (sz := [1, 1, 5, 1, 16, 1, 1, 1, 1, 1]) (all := SN.fields .global) (R := IR .global - 1) h1 hzl
 show W _ _ _ _ _ _ (w1.alloc (.cells Z.toArray 144))
 generalize w1.alloc (.cells Z.toArray 144) = w2 at M ⊢
 refine Af (Aa (Ac V V (Aj call77 V V (Fe _ _ M.st (M.nest.trans hk)) ?_ Be)))
 intro _ _ g
 obtain ⟨c0, _, rfl, M, H⟩ := M.read rfl (by decide) g
 obtain ⟨_, hst, M⟩ := M.store (off := 0) 0 H Cc rfl rfl
 refine Ab V (FL _ _ _) V (An V V hst (Ar [(0, ptr p), (2, ptr w.heap.size), (3, ptr w1.heap.size)] ⟨V, V, V, trivial⟩ ?_))
 refine Af (Aa (Ac V V (Aj call85 V V (IS _ _ M.st (M.nest.trans hk)) ?_ Be)))
 intro _ _ g
 obtain ⟨c1, _, rfl, M, H⟩ := M.read rfl (by decide) g
 obtain ⟨_, hst, M⟩ := M.store (off := 1) 1 H Dp rfl rfl
 refine Ab V (FH _ _ _) V (An V V hst (Ar [(0, ptr p), (2, ptr w.heap.size), (3, ptr w1.heap.size)] ⟨V, V, V, trivial⟩ ?_))
 refine Af (Aa (Ac V V (Aj call133 V V (IU _ _ M.st (M.nest.trans hk)) ?_ Be)))
 intro _ _ g
 obtain ⟨c2, _, rfl, M, H⟩ := M.read rfl (by decide) g
 obtain ⟨_, hst, M⟩ := M.store (off := 2) 2 H D9 rfl rfl
 refine Ab V (FI _ _ _) V (An V V hst (Ar [(0, ptr p), (2, ptr w.heap.size), (3, ptr w1.heap.size)] ⟨V, V, V, trivial⟩ ?_))
 refine Af (Aa (Ac V V (Aj call85 V V (IS _ _ M.st (M.nest.trans hk)) ?_ Be)))
 intro _ _ g
 obtain ⟨c3, _, rfl, M, H⟩ := M.read rfl (by decide) g
 obtain ⟨_, hst, M⟩ := M.store (off := 7) 3 H Dp rfl rfl
 refine Ab V (FF _ _ _) V (An V V hst (Ar [(0, ptr p), (2, ptr w.heap.size), (3, ptr w1.heap.size)] ⟨V, V, V, trivial⟩ ?_))
 refine Af (Aa (Ac V V (Aj call83 V V (hX _ _ M.st (M.nest.trans hk)) ?_ Be)))
 intro _ _ g
 obtain ⟨c4, _, rfl, M, H⟩ := M.read rfl (by decide) g
 obtain ⟨_, hst, M⟩ := M.store (off := 8) 4 H BY rfl rfl
 refine Ab V (Fw _ _ _) V (An V V hst (Ar [(0, ptr p), (2, ptr w.heap.size), (3, ptr w1.heap.size)] ⟨V, V, V, trivial⟩ ?_))
 refine Af (Aa (Ac V V (Aj call132 V V ((Nq hI) _ _ M.st (M.nest.trans hk)) ?_ Be)))
 intro _ _ g
 obtain ⟨c5, _, rfl, M, H⟩ := M.read rfl (by decide) g
 obtain ⟨_, hst, M⟩ := M.store (off := 24) 5 H Dt rfl rfl
 refine Ab V (FV _ _ _) V (An V V hst (Ar [(0, ptr p), (2, ptr w.heap.size), (3, ptr w1.heap.size)] ⟨V, V, V, trivial⟩ ?_))
 refine Af (Aa (Ac V V (Aj call77 V V (Fe _ _ M.st (M.nest.trans hk)) ?_ Be)))
 intro _ _ g
 obtain ⟨c6, _, rfl, M, H⟩ := M.read rfl (by decide) g
 obtain ⟨_, hst, M⟩ := M.store (off := 25) 6 H Cc rfl rfl
 refine Ab V (FQ _ _ _) V (An V V hst (Ar [(0, ptr p), (2, ptr w.heap.size), (3, ptr w1.heap.size)] ⟨V, V, V, trivial⟩ ?_))
 refine Af (Aa (Ac V V (Aj call86 V V (J4 _ _ M.st (M.nest.trans hk)) ?_ Be)))
 intro _ _ g
 obtain ⟨c7, _, rfl, M, H⟩ := M.read rfl (by decide) g
 obtain ⟨_, hst, M⟩ := M.store (off := 26) 7 H Cj rfl rfl
 refine Ab V (F2 _ _ _) V (An V V hst (Ar [(0, ptr p), (2, ptr w.heap.size), (3, ptr w1.heap.size)] ⟨V, V, V, trivial⟩ ?_))
 refine Af (Aa (Ac V V (Aj call86 V V (J4 _ _ M.st (M.nest.trans hk)) ?_ Be)))
 intro _ _ g
 obtain ⟨c8, _, rfl, M, H⟩ := M.read rfl (by decide) g
 obtain ⟨_, hst, M⟩ := M.store (off := 27) 8 H Cj rfl rfl
 refine Ab V (Gh _ _ _) V (An V V hst (Ar [(0, ptr p), (2, ptr w.heap.size), (3, ptr w1.heap.size)] ⟨V, V, V, trivial⟩ ?_))
 refine Af (Aa (Ac V V (Aj call86 V V (J4 _ _ M.st (M.nest.trans hk)) ?_ Be)))
 intro _ _ g
 obtain ⟨c9, _, rfl, M, H⟩ := M.read rfl (by decide) g
 obtain ⟨_, hst, M⟩ := M.store (off := 28) 9 H Cj rfl rfl
 refine Ab V (FW _ _ _) V (An V V hst (Ar [(0, ptr p), (2, ptr w.heap.size), (3, ptr w1.heap.size)] ⟨V, V, V, trivial⟩ ?_))
 obtain ⟨e1, e2, e3, e4⟩ := M.finish (sn := .global) rfl rfl f1 h.ln (Nat.le_refl _) b1 Em hzs
 exact Af (Aa (Ai V e1 V (An V V e2 (Ae (AA fun a ha => BE V ha V e3 e4)))))
end Go.Sx
