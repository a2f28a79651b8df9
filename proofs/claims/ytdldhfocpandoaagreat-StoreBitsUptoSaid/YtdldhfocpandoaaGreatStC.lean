import Derived.Test.YtdldhfocpandoaaGreatStA
import Derived.Deep.Quiet
import Derived.Test.YtdldhfocpandoaaGreatStB
namespace Go.Sx
def QL (P : Program) (ops : Array Oper) (C : World → Prop) (Q : Act → Prop) (l : List Oper) (n : Nat) (ds : List Deferred) (m : Env) : Prop :=
 ∀ a, Loc n ds m a → wpQuiet P ops C Q l a
section
variable {P : Program} {ops : Array Oper} {C : World → Prop} {Q : Act → Prop} {rest : List Oper} {n : Nat} {ds : List Deferred} {m : Env} {d : Nat} {ty : TypeId} {pos : String} {aft : Array Edge}
theorem W.quiet {id : Nat} {l : List Oper} {Q : Exit → Act → World → Prop} {w : World} (C : World → Prop) (hm : P.follows .mixedOrders = true) (hB : Region.lexB .any l.toArray = true) (hC : C w.drew)
 (h : QL P l.toArray C (fun a' => ∀ w', C w' → Q .normal a' w') l n ds m) : W P (.region id l.toArray true) Q n ds m w :=
 fun a ha => wp_region_quiet (C := C) hm hB hC (by simpa using h a ha)
theorem QL.nil (h : ∀ a, Loc n ds m a → Q a) : QL P ops C Q [] n ds m := fun a ha => h a ha
theorem QL.next {y : Code} {Q : Exit → Act → World → Prop} (h : ∀ w', C w' → W P y Q n ds m w') : QL P ops C (fun a' => ∀ w', C w' → Exit.then (y.wp P Q) Q .normal a' w') [] n ds m :=
 fun a ha w' hw => h w' hw a ha
theorem QL.val {o : Oper} {v : Value} (hg : o.guard = none) (hd : o.dst = some d) (hb : Nat.blt d n = true)
 (hr : ∀ a w, Loc n ds m a → C w → (execOp a.eval o).run P w = .ok (.value v) w)
 (h : QL P ops C Q rest n ds ((d, v) :: m)) : QL P ops C Q (o :: rest) n ds m := by
 intro a ha
 unfold wpQuiet
 rw [if_pos (by simp [Region.wanted, hg])]
 refine ⟨v, fun w hw => ?_, ?_⟩
 · unfold Oper.quietAt
   rw [hr a w ha hw]
   exact ⟨rfl, rfl⟩
 · rw [hd]; exact h _ (ha.put d v hb)
theorem QL.gd {op : Op} {j : Nat} {want : Bool} {o' : Oper} {dj : Nat}
 (hj : ops[j]? = some o') (hdj : o'.dst = some dj) (hv : m.get dj = some (.bool want))
 (h : QL P ops C Q (⟨some d, op, ty, pos, aft, none⟩ :: rest) n ds m) : QL P ops C Q (⟨some d, op, ty, pos, aft, some (j, want)⟩ :: rest) n ds m := by
 intro a ha
 have h1 := h a ha
 unfold wpQuiet at h1 ⊢
 have hw : Region.wanted ⟨some d, op, ty, pos, aft, some (j, want)⟩ (yielded ops a.tmps) = true := by
  simp [Region.wanted, yielded, hj, hdj, ha.slot dj _ hv]
 have hw' : Region.wanted ⟨some d, op, ty, pos, aft, none⟩ (yielded ops a.tmps) = true := by simp [Region.wanted]
 rw [if_pos hw]
 rw [if_pos hw'] at h1
 exact h1
theorem QL.passed {op : Op} {j : Nat} {want : Bool} {o' : Oper} {dj : Nat} {vj : Value}
 (hj : ops[j]? = some o') (hdj : o'.dst = some dj) (hv : m.get dj = some vj) (hn : isWant vj want = false) (hb : Nat.blt d n = true)
 (h : QL P ops C Q rest n ds ((d, undef) :: m)) : QL P ops C Q (⟨some d, op, ty, pos, aft, some (j, want)⟩ :: rest) n ds m := by
 intro a ha
 have h1 := h _ (ha.put d undef hb)
 unfold wpQuiet
 have hw : Region.wanted ⟨some d, op, ty, pos, aft, some (j, want)⟩ (yielded ops a.tmps) = false := by
  simp only [Region.wanted, yielded, hj, hdj, Option.bind_some, ha.slot dj _ hv]
  cases vj <;> simp_all [isWant]
 rw [hw]
 exact h1
theorem QL.move {x : Operand} {v : Value} (hx : ev m x = some v) (hb : Nat.blt d n = true) (h : QL P ops C Q rest n ds ((d, v) :: m)) :
 QL P ops C Q (⟨some d, .move x, ty, pos, aft, none⟩ :: rest) n ds m :=
 QL.val rfl rfl hb (fun a w ha _ => by simp [execOp, ha.eval hx]) h
theorem QL.assign {x : Operand} {v : Value} (hx : ev m x = some v) (hb : Nat.blt d n = true) (h : QL P ops C Q rest n ds ((d, v) :: m)) :
 QL P ops C Q (⟨some d, .assign x, ty, pos, aft, none⟩ :: rest) n ds m :=
 QL.val rfl rfl hb (fun a w ha _ => by simp [execOp, ha.eval hx]) h
theorem QL.pick {c x y : Operand} {b : Bool} {v : Value} (hc : ev m c = some (.bool b)) (hx : (match b with | true => ev m x | false => ev m y) = some v) (hb : Nat.blt d n = true)
 (h : QL P ops C Q rest n ds ((d, v) :: m)) : QL P ops C Q (⟨some d, .pick c x y, ty, pos, aft, none⟩ :: rest) n ds m :=
 QL.val rfl rfl hb (fun a w ha _ => by
  cases b
  · simp [execOp, ha.eval hc, asBool, ha.eval hx]
  · simp [execOp, ha.eval hc, asBool, ha.eval hx]) h
theorem QL.load {t : TypeId} {x : Operand} {p : Addr} {v : Value} (hx : ev m x = some (.pointer (some p))) (hr : ∀ w, C w → (loadVar t p).run P w = .ok v w) (hb : Nat.blt d n = true)
 (h : QL P ops C Q rest n ds ((d, v) :: m)) : QL P ops C Q (⟨some d, .load t x, ty, pos, aft, none⟩ :: rest) n ds m :=
 QL.val rfl rfl hb (fun a w ha hw => by simp [execOp, ha.eval hx, Instr.loadAt, Instr.sureAddr, hr w hw]) h
theorem QL.nilCheck {x : Operand} {p : Addr} (hx : ev m x = some (.pointer (some p))) (hb : Nat.blt d n = true)
 (h : QL P ops C Q rest n ds ((d, .pointer (some p)) :: m)) : QL P ops C Q (⟨some d, .nilCheck x, ty, pos, aft, none⟩ :: rest) n ds m :=
 QL.val rfl rfl hb (fun a w ha _ => by simp [execOp, ha.eval hx]) h
theorem QL.fa {s k : Nat} {x : Operand} {p q : Addr} (hx : ev m x = some (.pointer (some p))) (hr : ∀ w, (Instr.fieldAt s (.pointer (some p)) k).run P w = .ok (.pointer (some q)) w) (hb : Nat.blt d n = true)
 (h : QL P ops C Q rest n ds ((d, .pointer (some q)) :: m)) : QL P ops C Q (⟨some d, .fieldAddr s x k, ty, pos, aft, none⟩ :: rest) n ds m :=
 QL.val rfl rfl hb (fun a w ha _ => by simp [execOp, ha.eval hx, hr w]) h
theorem QL.ix {t : Nat} {x y : Operand} {vx vy v : Value} (hx : ev m x = some vx) (hy : ev m y = some vy) (hr : ∀ w, (Instr.indexAt t vx vy).run P w = .ok v w) (hb : Nat.blt d n = true)
 (h : QL P ops C Q rest n ds ((d, v) :: m)) : QL P ops C Q (⟨some d, .indexAddr t x y, ty, pos, aft, none⟩ :: rest) n ds m :=
 QL.val rfl rfl hb (fun a w ha _ => by simp [execOp, ha.eval hx, ha.eval hy, hr w]) h
theorem QL.binInt {op : BinOp} {t u : Nat} {x y : Operand} {k k' : IntKind} {i j : Int} {v : Value} (hx : ev m x = some (.int k i)) (hy : ev m y = some (.int k' j))
 (hr : ∀ w, (binOp op t (.int k i) (.int k' j)).run P w = .ok v w) (hb : Nat.blt d n = true)
 (h : QL P ops C Q rest n ds ((d, v) :: m)) : QL P ops C Q (⟨some d, .binOp op t x y u, ty, pos, aft, none⟩ :: rest) n ds m :=
 QL.val rfl rfl hb (fun a w ha _ => by
  have he : eqGuard op t x y (.int k i) (.int k' j) = pure () := by unfold eqGuard; cases op <;> rfl
  simp [execOp, ha.eval hx, ha.eval hy, he, hr w]) h
theorem QL.binAny {op : BinOp} {t u : Nat} {x y : Operand} {vx vy v : Value} (hx : ev m x = some vx) (hy : ev m y = some vy)
 (hg : ∀ w, (eqGuard op t x y vx vy).run P w = .ok () w) (hr : ∀ w, (binOp op t vx vy).run P w = .ok v w) (hb : Nat.blt d n = true)
 (h : QL P ops C Q rest n ds ((d, v) :: m)) : QL P ops C Q (⟨some d, .binOp op t x y u, ty, pos, aft, none⟩ :: rest) n ds m :=
 QL.val rfl rfl hb (fun a w ha _ => by simp [execOp, ha.eval hx, ha.eval hy, hg w, hr w]) h
theorem QL.not {t : Nat} {x : Operand} {b : Bool} (hx : ev m x = some (.bool b)) (hb : Nat.blt d n = true)
 (h : QL P ops C Q rest n ds ((d, .bool (!b)) :: m)) : QL P ops C Q (⟨some d, .unOp .not t x, ty, pos, aft, none⟩ :: rest) n ds m :=
 QL.val rfl rfl hb (fun a w ha _ => by simp [execOp, ha.eval hx, Op.unary]) h
theorem QL.convert {s t : Nat} {x : Operand} {vx v : Value} (hx : ev m x = some vx) (hr : ∀ w, (Go.convert s t vx).run P w = .ok v w) (hb : Nat.blt d n = true)
 (h : QL P ops C Q rest n ds ((d, v) :: m)) : QL P ops C Q (⟨some d, .convert s t x, ty, pos, aft, none⟩ :: rest) n ds m :=
 QL.val rfl rfl hb (fun a w ha _ => by simp [execOp, ha.eval hx, hr w]) h
theorem QL.len {t : TypeId} {x : Operand} {vx v : Value} (hx : ev m x = some vx) (hr : ∀ w, (Builtin.len_ #[t] ty #[vx]).run P w = .ok v w) (hb : Nat.blt d n = true)
 (h : QL P ops C Q rest n ds ((d, v) :: m)) : QL P ops C Q (⟨some d, .call { callee := .builtin .len, args := #[x], argTypes := #[t] }, ty, pos, aft, none⟩ :: rest) n ds m :=
 QL.val rfl rfl hb (fun a w ha _ => by simp [execOp, resolve, invoke, builtin, ha.eval hx, hr w]) h
theorem QL.call {f : FuncId} {args : Array Operand} {ats : Array TypeId} {vs : List Value} {v : Value}
 (hc : Callable P f) (ha' : evs m args.toList = some vs) (hb : Nat.blt d n = true) (hcall : ∀ w, C w → Calls P f vs.toArray w (fun e w'' => e = .returned v ∧ C w''))
 (h : QL P ops C Q rest n ds ((d, v) :: m)) : QL P ops C Q (⟨some d, .call { callee := .value (.func f), args := args, argTypes := ats }, ty, pos, aft, none⟩ :: rest) n ds m := by
 intro a ha
 unfold wpQuiet
 rw [if_pos (by simp [Region.wanted])]
 refine ⟨v, fun w hw => ?_, h _ (ha.put d v hb)⟩
 have h1 : args.map a.eval = vs.toArray := Array.toList_inj.mp (by simpa using ha.evals ha')
 have : (execOp a.eval ⟨some d, .call { callee := .value (.func f), args := args, argTypes := ats }, ty, pos, aft, none⟩).run P w = .ok (.enter f vs.toArray) w := by
  simp [execOp, resolve, invoke, Deferred.ofValue, Act.eval, h1, hc _ _]
 unfold Oper.quietAt
 rw [this]
 exact ⟨rfl, hcall w hw⟩
end
end Go.Sx
namespace Go.Sx
open Go.Proofs
theorem splice_3 (a b c d e : Value) (cs : List Value) : splice (a :: b :: c :: d :: cs) 3 [e] = a :: b :: c :: e :: cs := by simp [splice]
section
variable {w0 : World} {S : Nat → Prop} {p most long : Nat} {s : WS} {O : Nat → Prop} {w : World}
theorem WSt.nestTo (h : WSt w0 S p most long s O w) (k : Nat) : ∃ w', (storeVar 3 ⟨p, 3, none⟩ (.int .i64 k)).run Tryz.prog w = .ok () w' ∧ Fr O w O w' ∧ WSt w0 S p most long { s with nest := k } O w' := by
 obtain ⟨vb, vt, bm, m⟩ := h.mem
 have hst := store_at (P := Tryz.prog) (t := 3) (n := 1) (agg := false) (b := p) (o := 3) (v := .int .i64 k) (vs := [.int .i64 k]) ty3 rfl rfl (by simp [Value.oneCell']) m.blk (by simp)
 rw [splice_3] at hst
 have f : Fr O w O (w.setRow p [vb, vt, .map (some bm), .int .i64 k, .int .i64 most, .int .i64 long].toArray) := Fr.setRow _ m.op
 have hoth : ∀ b, b ≠ p → (w.setRow p [vb, vt, .map (some bm), .int .i64 k, .int .i64 most, .int .i64 long].toArray).heap[b]? = w.heap[b]? := fun b hb => setRow_other w p b _ hb
 refine ⟨_, hst, f, fun b hb hl => ⟨(h.inp b hb hl).1, ?_⟩, fun b hb => by simp only [setRow_size]; exact h.lt b hb, by simp only [setRow_size]; exact h.base, ?_, h.tabs, h.nodup⟩
 · rw [hoth b (fun e => (h.inp b hb hl).1 (e ▸ m.op))]; exact (h.inp b hb hl).2
 · exact ⟨vb, vt, bm, m.blk.setRow _, ownsRow_agree m.rb (fun b hb => hoth b (m.ob b hb).2.1), ownsRow_agree m.rt (fun b hb => hoth b (m.ot b hb).2.1), m.mp.agree (hoth bm (fun e => m.pm e.symm)), m.op, m.om, m.ob, m.ot, m.pm⟩
theorem WSt.cells (h : WSt w0 S p most long s O w) : ∃ vb, w.cell? ⟨p, 0, none⟩ = some vb ∧ w.cell? ⟨p, 3, none⟩ = some (.int .i64 s.nest) ∧ w.cell? ⟨p, 4, none⟩ = some (.int .i64 most) ∧ w.cell? ⟨p, 5, none⟩ = some (.int .i64 long) ∧
 ∃ g c, vb = .slice g s.b.length c := by
 obtain ⟨vb, vt, bm, m⟩ := h.mem
 refine ⟨vb, by rw [m.blk.cell]; rfl, by rw [m.blk.cell]; rfl, by rw [m.blk.cell]; rfl, by rw [m.blk.cell]; rfl, ?_⟩
 rcases m.rb.2 with ⟨h1, h2⟩ | ⟨g, cap, cur, h1, _⟩
 · exact ⟨none, 0, by rw [h1, h2]⟩
 · exact ⟨_, _, h1⟩
end
theorem ty183 : IsTy Tryz.prog 183 false 1 := iy183
theorem mixed : Tryz.prog.follows .mixedOrders = true := by kernel_rfl
theorem Fr.drewn {O : Nat → Prop} {w : World} (k : Nat) : Fr O w O (w.drewN k) := ⟨rfl, rfl, rfl, Nat.le_refl _, fun _ _ _ => rfl, fun _ h => .inl h⟩
theorem run_failed {w : World} : (Instr.build 89 #[]).run Tryz.prog w = .ok (.agg #[]) w := by
 simp [Instr.build, Tryz.zeroValue89, Tryz.runUnderlying89, Value.cells, Instr.fill]
theorem run_failedI {w : World} : (Instr.makeInterface 89 (.agg #[])).run Tryz.prog w = .ok (.iface 89 (.agg #[])) w := by
 simp [Instr.makeInterface, Tryz.runUnderlying89]
theorem run_failedP {w : World} : (Instr.panic (.iface 89 (.agg #[])) : Sem Value).run Tryz.prog w = .halt (.panic (.iface 89 (.agg #[]))) w := rfl
theorem WL.failed {ops : Array Oper} {Q : Exit → Act → World → Prop} {n : Nat} {ds : List Deferred} {m : Env} {w : World} {d1 d2 : Nat} {t1 t2 t3 : TypeId} {p1 p2 p3 : String} {a1 a2 a3 : Array Edge}
 (hb1 : Nat.blt d1 n = true) (hb2 : Nat.blt d2 n = true) (h : ∀ a, Loc n ds m a → Q (.panic failedP) a w) (hk : m.get d1 = none) (hk2 : m.get d2 = none) :
 WL Tryz.prog ops Q [⟨some d1, .build 89 #[], t1, p1, a1, none⟩, ⟨some d2, .makeInterface 89 (.tmp d1), t2, p2, a2, none⟩, ⟨none, .panic (.tmp d2), t3, p3, a3, none⟩] n ds m w := by
 have e1 : ∀ v, Env.get ((d1, v) :: m) d1 = some v := fun v => by simp [Env.get, Nat.beq_refl]
 have e2 : ∀ u v, Env.get ((d2, u) :: (d1, v) :: m) d2 = some u := fun u v => by simp [Env.get, Nat.beq_refl]
 refine WL.build rfl run_failed hb1 (WL.makeInterface (x := .tmp d1) (e1 _) run_failedI hb2 (WL.panic rfl rfl (x := .tmp d2) (e2 _ _) run_failedP (fun a ha => h a ⟨ha.size, ha.defers, ?_⟩)))
 intro i v hv
 refine ha.slot i v ?_
 have n1 : Nat.beq d2 i = false := by
  cases hb : Nat.beq d2 i with
  | false => rfl
  | true => rw [← Nat.eq_of_beq_eq_true hb, hk2] at hv; cases hv
 have n2 : Nat.beq d1 i = false := by
  cases hb : Nat.beq d1 i with
  | false => rfl
  | true => rw [← Nat.eq_of_beq_eq_true hb, hk] at hv; cases hv
 simp only [Env.get, n1, n2]
 exact hv
theorem c150 {w0 : World} {S : Nat → Prop} {p most long : Nat} {s : WS} {O : Nat → Prop} {w : World} (hw : WSt w0 S p most long s O w) (hu : s.use ≤ 2 ^ 40) :
 Calls Tryz.prog 150 [ptr p].toArray w (End
  (fun v w' => ¬ (most < s.nest + 1 ∨ long < s.b.length) ∧ ∃ bx O', v = .func (.func 205) #[] #[ptr bx] ∧ Own O' w' bx [ptr p] 183 ∧ w.heap.size ≤ bx ∧ Fr O w O' w' ∧ WSt w0 S p most long { s with nest := s.nest + 1 } O' w')
  (fun ch w' => ch = failedP ∧ (most < s.nest + 1 ∨ long < s.b.length) ∧ ∃ O', Fr O w O' w' ∧ WSt w0 S p most long { s with nest := s.nest + 1 } O' w')) := by
 have hun : s.nest ≤ 2 ^ 40 := by simp only [WS.use] at hu; omega
 refine cW 34 Tryz.func150 rfl rfl rfl ?_
 refine W.sq (W.rg (WL.box rfl rfl (WL.an rfl rfl (WL.kp [(1, ptr w.heap.size), (2, .nilFunc)] ⟨rfl, rfl, trivial⟩ ?_))))
 have hw1 := hw.alloc (.cells [ptr p].toArray 183)
 have ho1 := hw.own_new [ptr p] 183
 have f1 : Fr O w O (w.alloc (.cells [ptr p].toArray 183)) := Fr.alloc _ _ _
 show W _ _ _ _ _ _ (w.alloc (.cells [ptr p].toArray 183))
 generalize w.alloc (.cells [ptr p].toArray 183) = w1 at hw1 ho1 f1 ⊢
 obtain ⟨vb, hc0, hc3, hc4, hc5, g, cp, rfl⟩ := hw1.cells
 have hbx : w1.cell? ⟨w.heap.size, 0, none⟩ = some (ptr p) := by rw [ho1.blk.cell]; rfl
 obtain ⟨w2, hst, f2, hw2⟩ := hw1.nestTo (s.nest + 1)
 refine W.seqI (ι := Nat) (fun _ => [(1, ptr w.heap.size), (2, .nilFunc)]) (fun k w' => w' = w2.drewN k ∧ ¬ (most < s.nest + 1 ∨ long < s.b.length)) ?_ ?_
 · refine W.sq (W.rg (WL.ld rfl (load1 ty183 hbx) rfl (WL.nc rfl rfl (WL.fa rfl (field185_3 _ _ _) rfl (WL.ld rfl (load1 ty3 hc3) rfl (WL.bi rfl rfl (v := .int .i64 ((s.nest + 1 : Nat) : Int)) ?_ rfl ?_))))))
   · show Result.ok (Value.int .i64 (IntKind.i64.wrap ((s.nest : Int) + 1))) _ = _
     rw [wrap_i64 (by unfold isInt; omega)]; rfl
   refine WL.nc rfl rfl (WL.fa rfl (field185_3 _ _ _) rfl (WL.so rfl rfl hst (WL.kp [(1, ptr w.heap.size), (2, .nilFunc)] ⟨rfl, rfl, trivial⟩ ?_)))
   have ho2 := f2.keep ho1
   have hbx2 : w2.cell? ⟨w.heap.size, 0, none⟩ = some (ptr p) := by rw [ho2.blk.cell]; rfl
   have hcl := hw2.cells
   simp only at hcl
   obtain ⟨vb2, d0, d3, d4, d5, g2, cp2, rfl⟩ := hcl
   have LD : ∀ (t : TypeId) (o b : Nat) (v : Value), IsTy Tryz.prog t false 1 → w2.cell? ⟨b, o, none⟩ = some v → ∀ w', (∃ k, w' = w2.drewN k) → (loadVar t ⟨b, o, none⟩).run Tryz.prog w' = .ok v w' := by
    rintro t o b v ht hc w' ⟨k, rfl⟩
    exact load1 ht (by simpa using hc)
   obtain ⟨b1, hb1⟩ : ∃ b1, b1 = decide (most < s.nest + 1) := ⟨_, rfl⟩
   obtain ⟨b2, hb2⟩ : ∃ b2, b2 = decide (long < s.b.length) := ⟨_, rfl⟩
   refine W.seqI (ι := Nat) (fun _ => [(1, ptr w.heap.size), (2, .nilFunc), (30, .bool (b1 || b2))]) (fun k w' => w' = w2.drewN k) (W.quiet (fun w' => ∃ k, w' = w2.drewN k) mixed (by kernel_rfl) ⟨1, rfl⟩ ?_) ?_
   rotate_left
   · rintro k w' rfl
     obtain ⟨b, hb⟩ : ∃ b, b = (b1 || b2) := ⟨_, rfl⟩
     rw [← hb]
     refine W.cond rfl (fun ht => W.rg (WL.failed rfl rfl (fun a ha => ?_) rfl rfl)) (fun hf => W.skip fun a ha => ?_)
     · refine tP (pP ha ⟨rfl, ?_, O, f1.trans (f2.trans (Fr.drewn k)), hw2.other (Fr.drewn (O := fun _ => False) k) (fun _ h => h.elim)⟩)
       rw [ht] at hb
       simp only [hb1, hb2] at hb
       rcases (Bool.or_eq_true _ _ ▸ hb.symm : _ ∨ _) with h | h
       · exact .inl (of_decide_eq_true h)
       · exact .inr (of_decide_eq_true h)
     · refine tN ⟨k, ha.weak ⟨rfl, rfl, trivial⟩, rfl, ?_⟩
       rw [hf] at hb
       simp only [hb1, hb2] at hb
       have := (Bool.or_eq_false_iff).1 hb.symm
       exact fun h => h.elim (of_decide_eq_false this.1) (of_decide_eq_false this.2)
   refine QL.load rfl (LD 183 0 _ _ ty183 hbx2) rfl (QL.nilCheck rfl rfl (QL.fa rfl (fun _ => field185_3 _ _ _) rfl (QL.load rfl (LD 3 3 _ _ ty3 d3) rfl ?_)))
   refine QL.load rfl (LD 183 0 _ _ ty183 hbx2) rfl (QL.nilCheck rfl rfl (QL.fa rfl (fun _ => field185_4 _ _ _) rfl (QL.load rfl (LD 3 4 _ _ ty3 d4) rfl ?_)))
   refine QL.binInt rfl rfl (v := .bool b1) (fun _ => run_gtr (hb1.trans (decide_eq_decide.2 (by omega)))) rfl (QL.move rfl rfl ?_)
   cases b1 with
   | true =>
    iterate 10 refine QL.passed (j := 9) rfl rfl rfl rfl rfl ?_
    exact QL.pick rfl rfl rfl (QL.nil fun a ha w' hw' => tN (hw'.elim fun k hk => ⟨k, ha.weak ⟨rfl, rfl, rfl, trivial⟩, hk⟩))
   | false =>
    refine QL.gd (j := 9) rfl rfl rfl (QL.load rfl (LD 183 0 _ _ ty183 hbx2) rfl (QL.gd (j := 9) rfl rfl rfl (QL.nilCheck rfl rfl (QL.gd (j := 9) rfl rfl rfl (QL.fa rfl (fun _ => field185_0 _ _ _) rfl (QL.gd (j := 9) rfl rfl rfl (QL.load rfl (LD 22 0 _ _ ty22 d0) rfl ?_)))))))
    refine QL.gd (j := 9) rfl rfl rfl (QL.len rfl (fun _ => lS Tryz.underlying22) rfl ?_)
    refine QL.gd (j := 9) rfl rfl rfl (QL.load rfl (LD 183 0 _ _ ty183 hbx2) rfl (QL.gd (j := 9) rfl rfl rfl (QL.nilCheck rfl rfl (QL.gd (j := 9) rfl rfl rfl (QL.fa rfl (fun _ => field185_5 _ _ _) rfl (QL.gd (j := 9) rfl rfl rfl (QL.load rfl (LD 3 5 _ _ ty3 d5) rfl ?_)))))))
    refine QL.gd (j := 9) rfl rfl rfl (QL.binInt rfl rfl (v := .bool b2) (fun _ => run_gtr (hb2.trans (decide_eq_decide.2 (by omega)))) rfl ?_)
    exact QL.pick rfl rfl rfl (QL.nil fun a ha w' hw' => tN (hw'.elim fun k hk => ⟨k, ha.weak ⟨rfl, rfl, by simp [Env.get], trivial⟩, hk⟩))
 · rintro k w' ⟨rfl, hno⟩
   refine W.sq (W.rg (WL.makeFunc rfl rfl rfl (WL.an rfl rfl (WL.nx (W.ret fun a ha => pR rfl ha rfl ⟨hno, w.heap.size, O, rfl, (f2.trans (Fr.drewn k)).keep ho1, Nat.le_refl _, f1.trans (f2.trans (Fr.drewn k)), hw2.other (Fr.drewn (O := fun _ => False) k) (fun _ h => h.elim)⟩)))))
theorem d205 {w0 : World} {S : Nat → Prop} {p most long : Nat} {s : WS} {O : Nat → Prop} {w : World} {bx : Nat} {u : FrameMode} (hw : WSt w0 S p most long s O w) (ho : Own O w bx [ptr p] 183) (h1 : 1 ≤ s.nest) (h2 : s.nest ≤ 2 ^ 41) :
 CallsD Tryz.prog 205 [ptr bx].toArray u w fun e u' w' => u' = u ∧ (e = .returned (.tuple #[]) ∧ Fr O w O w' ∧ WSt w0 S p most long { s with nest := s.nest - 1 } O w') := by
 refine callsD_W (R := fun e w' => e = .returned (.tuple #[]) ∧ Fr O w O w' ∧ WSt w0 S p most long { s with nest := s.nest - 1 } O w') 8 Tryz.func205 rfl rfl rfl ?_
 have hbx : w.cell? ⟨bx, 0, none⟩ = some (ptr p) := by rw [ho.blk.cell]; rfl
 obtain ⟨vb, hc0, hc3, hc4, hc5, g, cp, rfl⟩ := hw.cells
 obtain ⟨w2, hst, f2, hw2⟩ := hw.nestTo (s.nest - 1)
 refine W.rg (WL.ld rfl (load1 ty183 hbx) rfl (WL.nc rfl rfl (WL.fa rfl (field185_3 _ _ _) rfl (WL.ld rfl (load1 ty3 hc3) rfl (WL.bi rfl rfl (v := .int .i64 ((s.nest - 1 : Nat) : Int)) ?_ rfl ?_)))))
 · show Result.ok (Value.int .i64 (IntKind.i64.wrap ((s.nest : Int) - 1))) _ = _
   rw [wrap_i64 (by unfold isInt; omega), show (s.nest : Int) - 1 = ((s.nest - 1 : Nat) : Int) by omega]
 exact WL.nc rfl rfl (WL.fa rfl (field185_3 _ _ _) rfl (WL.so rfl rfl hst (WL.nil fun a ha => post_end0 rfl ha ⟨rfl, f2, hw2⟩)))
def def205 (bx : Nat) : Deferred := { target := .fn (.func 205) #[ptr bx], args := #[] ++ #[] }
theorem leaves_ret {fn : Func} {tmps : Array Value} {R : Value → World → Prop} {Sx : List PanicEntry → World → Prop} {w0 : World} {S : Nat → Prop} {p most long : Nat} {s : WS} {O : Nat → Prop} {w : World} {bx : Nat}
 (hres : fn.results = #[]) (hw : WSt w0 S p most long s O w) (ho : Own O w bx [ptr p] 183) (h1 : 1 ≤ s.nest) (h2 : s.nest ≤ 2 ^ 41)
 (h : ∀ w', Fr O w O w' → WSt w0 S p most long { s with nest := s.nest - 1 } O w' → R (.tuple #[]) w') : Leaves Tryz.prog fn tmps (End R Sx) [def205 bx] .returning w := by
 refine leaves_cons (f := 205) (args := [ptr bx].toArray) (by simp) (by simp [invoke, Tryz.call205]) ((d205 hw ho h1 h2).mono ?_)
 rintro e u' w' ⟨rfl, rfl, f, hw'⟩
 exact ⟨_, results_none hres _ _ _, h w' f hw'⟩
theorem leaves_pan {fn : Func} {tmps : Array Value} {R : Value → World → Prop} {Sx : List PanicEntry → World → Prop} {w0 : World} {S : Nat → Prop} {p most long : Nat} {s : WS} {O : Nat → Prop} {w : World} {bx : Nat}
 (hw : WSt w0 S p most long s O w) (ho : Own O w bx [ptr p] 183) (h1 : 1 ≤ s.nest) (h2 : s.nest ≤ 2 ^ 41)
 (h : ∀ w', Fr O w O w' → WSt w0 S p most long { s with nest := s.nest - 1 } O w' → Sx failedP w') : Leaves Tryz.prog fn tmps (End R Sx) [def205 bx] (.panicking failedP) w := by
 refine leaves_cons (f := 205) (args := [ptr bx].toArray) (by simp) (by simp [invoke, Tryz.call205]) ((d205 hw ho h1 h2).mono ?_)
 rintro e u' w' ⟨rfl, rfl, f, hw'⟩
 exact h w' f hw'
end Go.Sx
namespace Go.Sx
open Go.Proofs
section
variable {P : Program} {w : World}
theorem slice_lit2 {t e : TypeId} {z v0 v1 : Value} (ht : P.underlying t = some (.slice e)) (he : IsTy P e false 1) (hz : ∀ w, (zeroValue e).run P w = .ok z w) (hz1 : z.cells.size = 1) (h0 : v0.cells = #[v0]) (h1 : v1.cells = #[v1]) :
 (Instr.buildSlice t 2 #[(0, v0), (1, v1)]).run P w = .ok (.slice (some ⟨w.heap.size, 0, none⟩) 2 2) (w.alloc (.cells [v0, v1].toArray e)) := by
 obtain ⟨z0, hz0⟩ : ∃ z0, z.cells = #[z0] := Array.size_eq_one_iff.mp hz1
 have hr : Array.range 2 = #[0, 1] := rfl
 simp [Instr.buildSlice, run_underlying ht, he.size, hz, hz0, Instr.fill, h0, h1, newRow, hr]
theorem slice_lit3 {t e : TypeId} {z v0 v1 v2 : Value} (ht : P.underlying t = some (.slice e)) (he : IsTy P e false 1) (hz : ∀ w, (zeroValue e).run P w = .ok z w) (hz1 : z.cells.size = 1) (h0 : v0.cells = #[v0]) (h1 : v1.cells = #[v1]) (h2 : v2.cells = #[v2]) :
 (Instr.buildSlice t 3 #[(0, v0), (1, v1), (2, v2)]).run P w = .ok (.slice (some ⟨w.heap.size, 0, none⟩) 3 3) (w.alloc (.cells [v0, v1, v2].toArray e)) := by
 obtain ⟨z0, hz0⟩ : ∃ z0, z.cells = #[z0] := Array.size_eq_one_iff.mp hz1
 have hr : Array.range 3 = #[0, 1, 2] := rfl
 simp [Instr.buildSlice, run_underlying ht, he.size, hz, hz0, Instr.fill, h0, h1, h2, newRow, hr]
theorem slice_lit4 {t e : TypeId} {z v0 v1 v2 v3 : Value} (ht : P.underlying t = some (.slice e)) (he : IsTy P e false 1) (hz : ∀ w, (zeroValue e).run P w = .ok z w) (hz1 : z.cells.size = 1) (h0 : v0.cells = #[v0]) (h1 : v1.cells = #[v1]) (h2 : v2.cells = #[v2]) (h3 : v3.cells = #[v3]) :
 (Instr.buildSlice t 4 #[(0, v0), (1, v1), (2, v2), (3, v3)]).run P w = .ok (.slice (some ⟨w.heap.size, 0, none⟩) 4 4) (w.alloc (.cells [v0, v1, v2, v3].toArray e)) := by
 obtain ⟨z0, hz0⟩ : ∃ z0, z.cells = #[z0] := Array.size_eq_one_iff.mp hz1
 have hr : Array.range 4 = #[0, 1, 2, 3] := rfl
 simp [Instr.buildSlice, run_underlying ht, he.size, hz, hz0, Instr.fill, h0, h1, h2, h3, newRow, hr]
end
theorem At.one {w : World} {b o : Nat} {v : Value} (h : At w b o [v]) : w.cell? ⟨b, o, none⟩ = some v := h 0 v rfl
theorem Own.cell1 {O : Nat → Prop} {w : World} {b : Nat} {cs : List Value} {t : TypeId} {o : Nat} {v : Value} (h : Own O w b cs t) (hc : (cs.drop o).take 1 = [v]) : w.cell? ⟨b, o, none⟩ = some v :=
 At.one (hc ▸ h.blk.at_ o 1)
theorem encL_snoc {most long : Nat} {l : List T} {t : T} {s s1 s2 : WS} (h : encL most long l s = some s1) (h2 : enc most long t s1 = some s2) : encL most long (l ++ [t]) s = some s2 := by
 rw [encL_append, h, Option.bind_some, encL_one, h2]
theorem encL_fail {most long : Nat} {l r : List T} {t : T} {s s1 : WS} (h : encL most long l s = some s1) (h2 : enc most long t s1 = none) : encL most long (l ++ t :: r) s = none := by
 rw [encL_append, h, Option.bind_some, encL, h2]; rfl
theorem enc_flat {most long : Nat} {sn : SN} {l : List T} {s : WS} (h : sn.deep = false) : enc most long (.agg sn l) s = encL most long l s := by simp only [enc, h]
theorem encL_flatAt {most long : Nat} {sn : SN} {l r : List T} (a : List T) {s : WS} (h : sn.deep = false) : encL most long (a ++ .agg sn l :: r) s = encL most long (a ++ (l ++ r)) s := by
 rw [encL_append, encL_append]
 congr 1
 funext u
 rw [encL_append, encL, enc_flat h]
theorem encL_ints {most long : Nat} {l : List T} {ns : List Int} {s s1 : WS} (h : encL most long l s = some s1) : encL most long (l ++ ns.map T.int) s = some (s1.nums (ns.map zig)) := by
 rw [encL_append, h, Option.bind_some]
 clear h
 induction ns generalizing s1 with
 | nil => rfl
 | cons n ns ih => simp only [List.map_cons, encL, enc, Option.bind_some]; exact ih
theorem encL_bools {most long : Nat} {l : List T} {ns : List Bool} {s s1 : WS} (h : encL most long l s = some s1) : encL most long (l ++ ns.map T.bool) s = some (s1.nums (ns.map Bool.toNat)) := by
 rw [encL_append, h, Option.bind_some]
 clear h
 induction ns generalizing s1 with
 | nil => rfl
 | cons n ns ih => simp only [List.map_cons, encL, enc, Option.bind_some]; exact ih
theorem enc_deep {most long : Nat} {sn : SN} {l : List T} {s s1 : WS} (h : sn.deep = true) (hn : ¬ (most < s.nest + 1 ∨ long < s.b.length)) (he : encL most long l { s with nest := s.nest + 1 } = some s1) :
 enc most long (.agg sn l) s = some { s1 with nest := s.nest } := by simp only [enc, h, if_neg hn, he, Option.map_some]
theorem enc_deep_none {most long : Nat} {sn : SN} {l : List T} {s : WS} (h : sn.deep = true) (he : encL most long l { s with nest := s.nest + 1 } = none) :
 enc most long (.agg sn l) s = none := by
 simp only [enc, h, he]
 split <;> rfl
theorem enc_deep_out {most long : Nat} {sn : SN} {l : List T} {s : WS} (h : sn.deep = true) (hn : most < s.nest + 1 ∨ long < s.b.length) :
 enc most long (.agg sn l) s = none := by
 simp only [enc, h, if_pos hn]
theorem T.wt_mem {t : T} {l : List T} (h : t ∈ l) : t.wt ≤ T.wts l := by
 induction l with
 | nil => cases h
 | cons x l ih =>
  simp only [T.wts]
  rcases List.mem_cons.1 h with rfl | h
  · omega
  · have := ih h; omega
theorem one_cell {w : World} {S : Nat → Prop} {t : T} {f : Ty} {cs : List Value} (h : Rep w S t f cs) (hf : f.size = 1) : ∃ v, cs = [v] :=
 List.length_eq_one_iff.1 ((Rep.one _ _ _ h).1.trans hf)
section
variable {P : Program} {fn : Func} {n : Nat} {m : Env} {w : World} {R : Value → World → Prop} {Sx : List PanicEntry → World → Prop} {a : Act}
theorem post_panD0 {ch : List PanicEntry} (ha : Loc n [] m a) (h : Sx ch w) : bodyPostD P fn (End R Sx) (.panic ch) a w := by
 show Leaves P fn a.tmps (End R Sx) a.defers (.panicking ch) w
 rw [ha.defers]; exact h
theorem post_panD {d : Deferred} {ch : List PanicEntry} (ha : Loc n [d] m a) (h : ∀ tmps, Leaves P fn tmps (End R Sx) [d] (.panicking ch) w) : bodyPostD P fn (End R Sx) (.panic ch) a w := by
 show Leaves P fn a.tmps (End R Sx) a.defers (.panicking ch) w
 rw [ha.defers]; exact h _
theorem post_endD {d : Deferred} (ha : Loc n [d] m a) (h : ∀ tmps, Leaves P fn tmps (End R Sx) [d] .returning w) : bodyPostD P fn (End R Sx) .normal a w := by
 show Leaves P fn a.tmps (End R Sx) a.defers .returning w
 rw [ha.defers]; exact h _
end
theorem T.wts_append : ∀ (a b : List T), T.wts (a ++ b) = T.wts a + T.wts b
 | [], b => by simp [T.wts]
 | x :: a, b => by simp only [List.cons_append, T.wts, T.wts_append a b]; omega
theorem T.wts_flat (a : List T) {sn : SN} {l r : List T} : T.wts (a ++ (l ++ r)) ≤ T.wts (a ++ .agg sn l :: r) := by
 simp only [T.wts_append, T.wts, T.wt]; omega
theorem T.wt_agg {sn : SN} {l : List T} : (T.agg sn l).wt = T.wts l + 1 := by simp only [T.wt]
theorem T.wt_list {l : List T} : (T.list l).wt = T.wts l + 1 := by simp only [T.wt]
theorem T.wt_ptr {t : T} : (T.ptr t).wt = t.wt + 1 := by simp only [T.wt]
theorem wt_in_list {t : T} {l all : List T} {sn : SN} {N i : Nat} (hN : (T.agg sn all).wt ≤ N) (hi : all[i]? = some (.list l)) (h : t ∈ l) : t.wt < N := by
 have h1 := T.wt_mem h
 have h2 := T.wt_mem (List.mem_of_getElem? hi)
 rw [T.wt_list] at h2
 rw [T.wt_agg] at hN
 omega
theorem wt_in {t : T} {all : List T} {sn : SN} {N i : Nat} (hN : (T.agg sn all).wt ≤ N) (hi : all[i]? = some t) : t.wt < N := by
 have h2 := T.wt_mem (List.mem_of_getElem? hi)
 rw [T.wt_agg] at hN
 omega
structure Step (w0 : World) (S : Nat → Prop) (p most long : Nat) (l r : List T) (s0 : WS) (O : Nat → Prop) (w : World) (s' : WS) (O' : Nat → Prop) (w' : World) : Prop where
 st : WSt w0 S p most long s' O' w'
 fr : Fr O w O' w'
 en : encL most long l s0 = some s'
 bud : s'.use + 11 * T.wts r ≤ 2 ^ 40
 ne : s'.nest = s0.nest
section
variable {w0 : World} {S : Nat → Prop} {p most long : Nat} {l r : List T} {t : T} {s0 s1 s2 : WS} {O O1 O2 : Nat → Prop} {w w1 w2 : World}
theorem Step.hd (h : Step w0 S p most long l (t :: r) s0 O w s1 O1 w1) : s1.use + 11 * t.wt ≤ 2 ^ 40 := by
 have := h.bud; simp only [T.wts] at this; omega
theorem Step.hdl {k : List T} (h : Step w0 S p most long l (.list k :: r) s0 O w s1 O1 w1) : s1.use + 11 * (T.wts k + 1) ≤ 2 ^ 40 := by
 have := h.hd; rw [T.wt_list] at this; exact this
theorem Step.hd1 (h : Step w0 S p most long l (t :: r) s0 O w s1 O1 w1) : s1.use + 11 * 1 ≤ 2 ^ 40 := by
 have := h.hd; have := t.wt_pos; omega
theorem Step.next (h : Step w0 S p most long l (t :: r) s0 O w s1 O1 w1) (hs : enc most long t s1 = some s2) (f : Fr O1 w1 O2 w2) (hw : WSt w0 S p most long s2 O2 w2) : Step w0 S p most long (l ++ [t]) r s0 O w s2 O2 w2 := by
 have hu := enc_use _ _ _ hs h.hd
 have hb := h.bud
 simp only [T.wts] at hb
 exact ⟨hw, h.fr.trans f, encL_snoc h.en hs, by omega, hu.2.trans h.ne⟩
theorem wts_ints (ns : List Int) : T.wts (ns.map T.int) = ns.length := by
 induction ns with
 | nil => rfl
 | cons n ns ih => simp only [List.map_cons, T.wts, T.wt, ih, List.length_cons]; omega
theorem wts_bools (ns : List Bool) : T.wts (ns.map T.bool) = ns.length := by
 induction ns with
 | nil => rfl
 | cons n ns ih => simp only [List.map_cons, T.wts, T.wt, ih, List.length_cons]; omega
theorem Step.hdi {ns : List Int} (h : Step w0 S p most long l (ns.map T.int ++ r) s0 O w s1 O1 w1) : s1.use + 11 * ns.length ≤ 2 ^ 40 := by
 have := h.bud; rw [T.wts_append, wts_ints] at this; omega
theorem Step.hdb {ns : List Bool} (h : Step w0 S p most long l (ns.map T.bool ++ r) s0 O w s1 O1 w1) : s1.use + 11 * ns.length ≤ 2 ^ 40 := by
 have := h.bud; rw [T.wts_append, wts_bools] at this; omega
theorem Step.ints {ns : List Int} (h : Step w0 S p most long l (ns.map T.int ++ r) s0 O w s1 O1 w1) (f : Fr O1 w1 O2 w2) (hw : WSt w0 S p most long (s1.nums (ns.map zig)) O2 w2) : Step w0 S p most long (l ++ ns.map T.int) r s0 O w (s1.nums (ns.map zig)) O2 w2 := by
 have he : encL most long (ns.map T.int) s1 = some (s1.nums (ns.map zig)) := by simpa using encL_ints (l := []) (most := most) (long := long) (s := s1) (s1 := s1) (ns := ns) rfl
 have hu := encL_use _ _ _ he (by rw [wts_ints]; exact h.hdi)
 have hb := h.bud
 rw [T.wts_append, wts_ints] at hb
 rw [wts_ints] at hu
 exact ⟨hw, h.fr.trans f, encL_ints h.en, by omega, hu.2.trans h.ne⟩
theorem Step.bools {ns : List Bool} (h : Step w0 S p most long l (ns.map T.bool ++ r) s0 O w s1 O1 w1) (f : Fr O1 w1 O2 w2) (hw : WSt w0 S p most long (s1.nums (ns.map Bool.toNat)) O2 w2) : Step w0 S p most long (l ++ ns.map T.bool) r s0 O w (s1.nums (ns.map Bool.toNat)) O2 w2 := by
 have he : encL most long (ns.map T.bool) s1 = some (s1.nums (ns.map Bool.toNat)) := by simpa using encL_bools (l := []) (most := most) (long := long) (s := s1) (s1 := s1) (ns := ns) rfl
 have hu := encL_use _ _ _ he (by rw [wts_bools]; exact h.hdb)
 have hb := h.bud
 rw [T.wts_append, wts_bools] at hb
 rw [wts_bools] at hu
 exact ⟨hw, h.fr.trans f, encL_bools h.en, by omega, hu.2.trans h.ne⟩
theorem Step.pan (h : Step w0 S p most long l (t :: r) s0 O w s1 O1 w1) {ch : List PanicEntry} {res : Option WS} (hp : WPan w0 S p most long O1 w1 (enc most long t s1) s1.nest ch w2)
 (he : encL most long (l ++ t :: r) s0 = none → res = none) : WPan w0 S p most long O w res s0.nest ch w2 := by
 obtain ⟨rfl, h1, s', O', f, hw, hn, hn2⟩ := hp
 refine ⟨rfl, he (encL_fail h.en h1), s', O', h.fr.trans f, hw, ?_, hn2⟩
 have := h.ne
 omega
theorem Step.panD {fn : Func} {R : Value → World → Prop} {bx : Nat} {s : WS} (h : Step w0 S p most long l (t :: r) { s with nest := s.nest + 1 } O w s1 O1 w1) (hx : Own O1 w1 bx [ptr p] 183)
 {ch : List PanicEntry} {sn : SN} {la : List T} (hd : sn.deep = true) (hp : WPan w0 S p most long O1 w1 (enc most long t s1) s1.nest ch w2)
 (he : encL most long (l ++ t :: r) { s with nest := s.nest + 1 } = encL most long la { s with nest := s.nest + 1 }) :
 ∀ tmps, Leaves Tryz.prog fn tmps (End R (WPan w0 S p most long O w (enc most long (.agg sn la) s) s.nest)) [def205 bx] (.panicking ch) w2 := by
 intro tmps
 obtain ⟨rfl, h1, s', O', f, hw, hn, hn2⟩ := hp
 have hne := h.ne
 simp only at hne
 refine leaves_pan hw (f.keep hx) (by omega) hn2 (fun w' f' hw' => ⟨rfl, enc_deep_none hd (he.symm.trans (encL_fail h.en h1)), _, _, h.fr.trans (f.trans f'), hw', ?_, ?_⟩)
 · show s.nest < s'.nest - 1; omega
 · show s'.nest - 1 ≤ _; omega
theorem Step.endD {fn : Func} {Sx : List PanicEntry → World → Prop} {bx : Nat} {s : WS} (hres : fn.results = #[]) (h : Step w0 S p most long l r { s with nest := s.nest + 1 } O w s1 O1 w1) (hx : Own O1 w1 bx [ptr p] 183)
 {sn : SN} {la : List T} (hd : sn.deep = true) (hn : ¬ (most < s.nest + 1 ∨ long < s.b.length)) (he : encL most long l { s with nest := s.nest + 1 } = encL most long la { s with nest := s.nest + 1 }) :
 ∀ tmps, Leaves Tryz.prog fn tmps (End (WRet w0 S p most long O w (enc most long (.agg sn la) s)) Sx) [def205 bx] .returning w1 := by
 intro tmps
 have hne := h.ne
 have hus := h.bud
 simp only at hne
 have h3 : s1.nest ≤ 2 ^ 40 := by
  have : s1.nest ≤ s1.use := by simp only [WS.use]; omega
  omega
 refine leaves_ret hres h.st hx (by omega) (by omega) (fun w' f' hw' => ⟨rfl, _, _, enc_deep hd hn (he.symm.trans h.en), h.fr.trans f', ?_⟩)
 have : s1.nest - 1 = s.nest := by omega
 rw [this] at hw'
 exact hw'
end
theorem e218 {w0 : World} {S : Nat → Prop} {p most long : Nat} {n : Int} (hn : isInt n) : WCall w0 S p most long 218 (.int .i64 n) (enc most long (.int n)) 1 := by
 have : enc most long (.int n) = fun s => some (s.num (zig n)) := by funext s; simp only [enc]
 rw [this]; exact c218 hn
theorem e151 {w0 : World} {S : Nat → Prop} {p most long : Nat} {x : ByteArray} (hx : x.size ≤ maxLen) : WCall w0 S p most long 151 (.string x) (enc most long (.str x)) 1 := by
 have : enc most long (.str x) = fun s => some (s.str x) := by funext s; simp only [enc]
 rw [this]; exact c151 hx
theorem w218 {w0 : World} {S : Nat → Prop} {p most long : Nat} (t : T) : WEnc w0 S p most long 218 .int t := by
 intro cs hr
 obtain ⟨n, rfl, rfl, hn⟩ := hr.int_inv
 exact e218 hn
theorem w151 {w0 : World} {S : Nat → Prop} {p most long : Nat} (t : T) : WEnc w0 S p most long 151 .str t := by
 intro cs hr
 obtain ⟨n, rfl, rfl, hn⟩ := hr.str_inv
 intro s O w hw hu
 exact e151 hn s O w hw (by simp only [T.wt] at hu; omega)
theorem ints2 {a b : Int} (ha : isInt a) (hb : isInt b) : ∀ n ∈ [a, b], isInt n := by
 intro n hn; simp only [List.mem_cons, List.not_mem_nil, or_false] at hn; rcases hn with rfl | rfl <;> assumption
theorem ints3 {a b c : Int} (ha : isInt a) (hb : isInt b) (hc : isInt c) : ∀ n ∈ [a, b, c], isInt n := by
 intro n hn; simp only [List.mem_cons, List.not_mem_nil, or_false] at hn; rcases hn with rfl | rfl | rfl <;> assumption
theorem ints4 {a b c d : Int} (ha : isInt a) (hb : isInt b) (hc : isInt c) (hd : isInt d) : ∀ n ∈ [a, b, c, d], isInt n := by
 intro n hn; simp only [List.mem_cons, List.not_mem_nil, or_false] at hn; rcases hn with rfl | rfl | rfl | rfl <;> assumption
end Go.Sx
namespace Go.Sx
open Go.Proofs
theorem fld59_0 : fA Tryz.prog 59 0 0 := fun w b o => by
 simp [Instr.fieldAt, Tryz.runUnderlying59, Instr.sureAddr, fieldPlace, Tryz.sizeOf3, Addr.add_lit]
theorem fld59_1 : fA Tryz.prog 59 1 1 := fun w b o => by
 simp [Instr.fieldAt, Tryz.runUnderlying59, Instr.sureAddr, fieldPlace, Tryz.sizeOf9, Addr.add_lit]
theorem fld61_0 : fA Tryz.prog 61 0 0 := fun w b o => by
 simp [Instr.fieldAt, Tryz.runUnderlying61, Instr.sureAddr, fieldPlace, Tryz.sizeOf3, Addr.add_lit]
theorem fld61_1 : fA Tryz.prog 61 1 1 := fun w b o => by
 simp [Instr.fieldAt, Tryz.runUnderlying61, Instr.sureAddr, fieldPlace, Tryz.sizeOf9, Addr.add_lit]
theorem fld63_0 : fA Tryz.prog 63 0 0 := fun w b o => by
 simp [Instr.fieldAt, Tryz.runUnderlying63, Instr.sureAddr, fieldPlace, Tryz.sizeOf3, Addr.add_lit]
theorem fld63_1 : fA Tryz.prog 63 1 1 := fun w b o => by
 simp [Instr.fieldAt, Tryz.runUnderlying63, Instr.sureAddr, fieldPlace, Tryz.sizeOf3, Addr.add_lit]
theorem fld63_2 : fA Tryz.prog 63 2 2 := fun w b o => by
 simp [Instr.fieldAt, Tryz.runUnderlying63, Instr.sureAddr, fieldPlace, Tryz.sizeOf61, Addr.add_lit]
theorem fld63_3 : fA Tryz.prog 63 3 4 := fun w b o => by
 simp [Instr.fieldAt, Tryz.runUnderlying63, Instr.sureAddr, fieldPlace, Tryz.sizeOf9, Addr.add_lit]
theorem fld66_0 : fA Tryz.prog 66 0 0 := fun w b o => by
 simp [Instr.fieldAt, Tryz.runUnderlying66, Instr.sureAddr, fieldPlace, Tryz.sizeOf3, Addr.add_lit]
theorem fld66_1 : fA Tryz.prog 66 1 1 := fun w b o => by
 simp [Instr.fieldAt, Tryz.runUnderlying66, Instr.sureAddr, fieldPlace, Tryz.sizeOf9, Addr.add_lit]
theorem fld66_2 : fA Tryz.prog 66 2 2 := fun w b o => by
 simp [Instr.fieldAt, Tryz.runUnderlying66, Instr.sureAddr, fieldPlace, Tryz.sizeOf9, Addr.add_lit]
theorem fld66_3 : fA Tryz.prog 66 3 3 := fun w b o => by
 simp [Instr.fieldAt, Tryz.runUnderlying66, Instr.sureAddr, fieldPlace, Tryz.sizeOf3, Addr.add_lit]
theorem fld66_4 : fA Tryz.prog 66 4 4 := fun w b o => by
 simp [Instr.fieldAt, Tryz.runUnderlying66, Instr.sureAddr, fieldPlace, Tryz.sizeOf59, Addr.add_lit]
theorem fld66_5 : fA Tryz.prog 66 5 6 := fun w b o => by
 simp [Instr.fieldAt, Tryz.runUnderlying66, Instr.sureAddr, fieldPlace, Tryz.sizeOf3, Addr.add_lit]
theorem fld66_6 : fA Tryz.prog 66 6 7 := fun w b o => by
 simp [Instr.fieldAt, Tryz.runUnderlying66, Instr.sureAddr, fieldPlace, Tryz.sizeOf61, Addr.add_lit]
theorem fld66_7 : fA Tryz.prog 66 7 9 := fun w b o => by
 simp [Instr.fieldAt, Tryz.runUnderlying66, Instr.sureAddr, fieldPlace, Tryz.sizeOf63, Addr.add_lit]
theorem fld66_8 : fA Tryz.prog 66 8 14 := fun w b o => by
 simp [Instr.fieldAt, Tryz.runUnderlying66, Instr.sureAddr, fieldPlace, Tryz.sizeOf44, Addr.add_lit]
theorem fld66_9 : fA Tryz.prog 66 9 15 := fun w b o => by
 simp [Instr.fieldAt, Tryz.runUnderlying66, Instr.sureAddr, fieldPlace, Tryz.sizeOf64, Addr.add_lit]
theorem fld282_0 : fA Tryz.prog 282 0 0 := fun w b o => by
 simp [Instr.fieldAt, Tryz.runUnderlying282, Instr.sureAddr, fieldPlace, Tryz.sizeOf9, Addr.add_lit]
theorem fld282_1 : fA Tryz.prog 282 1 1 := fun w b o => by
 simp [Instr.fieldAt, Tryz.runUnderlying282, Instr.sureAddr, fieldPlace, Tryz.sizeOf4, Addr.add_lit]
theorem fld282_2 : fA Tryz.prog 282 2 2 := fun w b o => by
 simp [Instr.fieldAt, Tryz.runUnderlying282, Instr.sureAddr, fieldPlace, Tryz.sizeOf66, Addr.add_lit]
theorem fld216_0 : fA Tryz.prog 216 0 0 := fun w b o => by
 simp [Instr.fieldAt, Tryz.runUnderlying216, Instr.sureAddr, fieldPlace, Tryz.sizeOf9, Addr.add_lit]
theorem fld216_1 : fA Tryz.prog 216 1 1 := fun w b o => by
 simp [Instr.fieldAt, Tryz.runUnderlying216, Instr.sureAddr, fieldPlace, Tryz.sizeOf63, Addr.add_lit]
theorem fld216_2 : fA Tryz.prog 216 2 6 := fun w b o => by
 simp [Instr.fieldAt, Tryz.runUnderlying216, Instr.sureAddr, fieldPlace, Tryz.sizeOf4, Addr.add_lit]
theorem fld216_3 : fA Tryz.prog 216 3 7 := fun w b o => by
 simp [Instr.fieldAt, Tryz.runUnderlying216, Instr.sureAddr, fieldPlace, Tryz.sizeOf66, Addr.add_lit]
theorem fld216_4 : fA Tryz.prog 216 4 23 := fun w b o => by
 simp [Instr.fieldAt, Tryz.runUnderlying216, Instr.sureAddr, fieldPlace, Tryz.sizeOf56, Addr.add_lit]
theorem fld286_0 : fA Tryz.prog 286 0 0 := fun w b o => by
 simp [Instr.fieldAt, Tryz.runUnderlying286, Instr.sureAddr, fieldPlace, Tryz.sizeOf66, Addr.add_lit]
theorem fld286_1 : fA Tryz.prog 286 1 16 := fun w b o => by
 simp [Instr.fieldAt, Tryz.runUnderlying286, Instr.sureAddr, fieldPlace, Tryz.sizeOf4, Addr.add_lit]
theorem fld286_2 : fA Tryz.prog 286 2 17 := fun w b o => by
 simp [Instr.fieldAt, Tryz.runUnderlying286, Instr.sureAddr, fieldPlace, Tryz.sizeOf4, Addr.add_lit]
theorem fld286_3 : fA Tryz.prog 286 3 18 := fun w b o => by
 simp [Instr.fieldAt, Tryz.runUnderlying286, Instr.sureAddr, fieldPlace, Tryz.sizeOf9, Addr.add_lit]
theorem fld290_0 : fA Tryz.prog 290 0 0 := fun w b o => by
 simp [Instr.fieldAt, Tryz.runUnderlying290, Instr.sureAddr, fieldPlace, Tryz.sizeOf66, Addr.add_lit]
theorem fld290_1 : fA Tryz.prog 290 1 16 := fun w b o => by
 simp [Instr.fieldAt, Tryz.runUnderlying290, Instr.sureAddr, fieldPlace, Tryz.sizeOf67, Addr.add_lit]
theorem fld294_0 : fA Tryz.prog 294 0 0 := fun w b o => by
 simp [Instr.fieldAt, Tryz.runUnderlying294, Instr.sureAddr, fieldPlace, Tryz.sizeOf262, Addr.add_lit]
theorem fld294_1 : fA Tryz.prog 294 1 1 := fun w b o => by
 simp [Instr.fieldAt, Tryz.runUnderlying294, Instr.sureAddr, fieldPlace, Tryz.sizeOf56, Addr.add_lit]
theorem fld72_0 : fA Tryz.prog 72 0 0 := fun w b o => by
 simp [Instr.fieldAt, Tryz.runUnderlying72, Instr.sureAddr, fieldPlace, Tryz.sizeOf3, Addr.add_lit]
theorem fld72_1 : fA Tryz.prog 72 1 1 := fun w b o => by
 simp [Instr.fieldAt, Tryz.runUnderlying72, Instr.sureAddr, fieldPlace, Tryz.sizeOf9, Addr.add_lit]
theorem fld72_2 : fA Tryz.prog 72 2 2 := fun w b o => by
 simp [Instr.fieldAt, Tryz.runUnderlying72, Instr.sureAddr, fieldPlace, Tryz.sizeOf9, Addr.add_lit]
theorem fld72_3 : fA Tryz.prog 72 3 3 := fun w b o => by
 simp [Instr.fieldAt, Tryz.runUnderlying72, Instr.sureAddr, fieldPlace, Tryz.sizeOf57, Addr.add_lit]
theorem fld72_4 : fA Tryz.prog 72 4 4 := fun w b o => by
 simp [Instr.fieldAt, Tryz.runUnderlying72, Instr.sureAddr, fieldPlace, Tryz.sizeOf57, Addr.add_lit]
theorem fld72_5 : fA Tryz.prog 72 5 5 := fun w b o => by
 simp [Instr.fieldAt, Tryz.runUnderlying72, Instr.sureAddr, fieldPlace, Tryz.sizeOf4, Addr.add_lit]
theorem fld72_6 : fA Tryz.prog 72 6 6 := fun w b o => by
 simp [Instr.fieldAt, Tryz.runUnderlying72, Instr.sureAddr, fieldPlace, Tryz.sizeOf66, Addr.add_lit]
theorem fld72_7 : fA Tryz.prog 72 7 22 := fun w b o => by
 simp [Instr.fieldAt, Tryz.runUnderlying72, Instr.sureAddr, fieldPlace, Tryz.sizeOf66, Addr.add_lit]
theorem fld72_8 : fA Tryz.prog 72 8 38 := fun w b o => by
 simp [Instr.fieldAt, Tryz.runUnderlying72, Instr.sureAddr, fieldPlace, Tryz.sizeOf63, Addr.add_lit]
theorem fld72_9 : fA Tryz.prog 72 9 43 := fun w b o => by
 simp [Instr.fieldAt, Tryz.runUnderlying72, Instr.sureAddr, fieldPlace, Tryz.sizeOf67, Addr.add_lit]
theorem fld72_10 : fA Tryz.prog 72 10 44 := fun w b o => by
 simp [Instr.fieldAt, Tryz.runUnderlying72, Instr.sureAddr, fieldPlace, Tryz.sizeOf68, Addr.add_lit]
theorem fld72_11 : fA Tryz.prog 72 11 45 := fun w b o => by
 simp [Instr.fieldAt, Tryz.runUnderlying72, Instr.sureAddr, fieldPlace, Tryz.sizeOf69, Addr.add_lit]
theorem fld72_12 : fA Tryz.prog 72 12 46 := fun w b o => by
 simp [Instr.fieldAt, Tryz.runUnderlying72, Instr.sureAddr, fieldPlace, Tryz.sizeOf70, Addr.add_lit]
theorem fld72_13 : fA Tryz.prog 72 13 47 := fun w b o => by
 simp [Instr.fieldAt, Tryz.runUnderlying72, Instr.sureAddr, fieldPlace, Tryz.sizeOf56, Addr.add_lit]
theorem fld72_14 : fA Tryz.prog 72 14 48 := fun w b o => by
 simp [Instr.fieldAt, Tryz.runUnderlying72, Instr.sureAddr, fieldPlace, Tryz.sizeOf56, Addr.add_lit]
theorem fld72_15 : fA Tryz.prog 72 15 49 := fun w b o => by
 simp [Instr.fieldAt, Tryz.runUnderlying72, Instr.sureAddr, fieldPlace, Tryz.sizeOf3, Addr.add_lit]
theorem fld72_16 : fA Tryz.prog 72 16 50 := fun w b o => by
 simp [Instr.fieldAt, Tryz.runUnderlying72, Instr.sureAddr, fieldPlace, Tryz.sizeOf3, Addr.add_lit]
theorem fld74_0 : fA Tryz.prog 74 0 0 := fun w b o => by
 simp [Instr.fieldAt, Tryz.runUnderlying74, Instr.sureAddr, fieldPlace, Tryz.sizeOf64, Addr.add_lit]
theorem fld74_1 : fA Tryz.prog 74 1 1 := fun w b o => by
 simp [Instr.fieldAt, Tryz.runUnderlying74, Instr.sureAddr, fieldPlace, Tryz.sizeOf9, Addr.add_lit]
theorem fld74_2 : fA Tryz.prog 74 2 2 := fun w b o => by
 simp [Instr.fieldAt, Tryz.runUnderlying74, Instr.sureAddr, fieldPlace, Tryz.sizeOf44, Addr.add_lit]
theorem fld74_3 : fA Tryz.prog 74 3 3 := fun w b o => by
 simp [Instr.fieldAt, Tryz.runUnderlying74, Instr.sureAddr, fieldPlace, Tryz.sizeOf4, Addr.add_lit]
theorem fld74_4 : fA Tryz.prog 74 4 4 := fun w b o => by
 simp [Instr.fieldAt, Tryz.runUnderlying74, Instr.sureAddr, fieldPlace, Tryz.sizeOf9, Addr.add_lit]
theorem fld74_5 : fA Tryz.prog 74 5 5 := fun w b o => by
 simp [Instr.fieldAt, Tryz.runUnderlying74, Instr.sureAddr, fieldPlace, Tryz.sizeOf68, Addr.add_lit]
theorem fld74_6 : fA Tryz.prog 74 6 6 := fun w b o => by
 simp [Instr.fieldAt, Tryz.runUnderlying74, Instr.sureAddr, fieldPlace, Tryz.sizeOf56, Addr.add_lit]
theorem fld74_7 : fA Tryz.prog 74 7 7 := fun w b o => by
 simp [Instr.fieldAt, Tryz.runUnderlying74, Instr.sureAddr, fieldPlace, Tryz.sizeOf9, Addr.add_lit]
theorem fld74_8 : fA Tryz.prog 74 8 8 := fun w b o => by
 simp [Instr.fieldAt, Tryz.runUnderlying74, Instr.sureAddr, fieldPlace, Tryz.sizeOf3, Addr.add_lit]
theorem fld74_9 : fA Tryz.prog 74 9 9 := fun w b o => by
 simp [Instr.fieldAt, Tryz.runUnderlying74, Instr.sureAddr, fieldPlace, Tryz.sizeOf3, Addr.add_lit]
theorem fld74_10 : fA Tryz.prog 74 10 10 := fun w b o => by
 simp [Instr.fieldAt, Tryz.runUnderlying74, Instr.sureAddr, fieldPlace, Tryz.sizeOf3, Addr.add_lit]
theorem fld74_11 : fA Tryz.prog 74 11 11 := fun w b o => by
 simp [Instr.fieldAt, Tryz.runUnderlying74, Instr.sureAddr, fieldPlace, Tryz.sizeOf3, Addr.add_lit]
theorem fld140_0 : fA Tryz.prog 140 0 0 := fun w b o => by
 simp [Instr.fieldAt, Tryz.runUnderlying140, Instr.sureAddr, fieldPlace, Tryz.sizeOf9, Addr.add_lit]
theorem fld140_1 : fA Tryz.prog 140 1 1 := fun w b o => by
 simp [Instr.fieldAt, Tryz.runUnderlying140, Instr.sureAddr, fieldPlace, Tryz.sizeOf68, Addr.add_lit]
theorem fld140_2 : fA Tryz.prog 140 2 2 := fun w b o => by
 simp [Instr.fieldAt, Tryz.runUnderlying140, Instr.sureAddr, fieldPlace, Tryz.sizeOf63, Addr.add_lit]
theorem fld140_3 : fA Tryz.prog 140 3 7 := fun w b o => by
 simp [Instr.fieldAt, Tryz.runUnderlying140, Instr.sureAddr, fieldPlace, Tryz.sizeOf66, Addr.add_lit]
theorem fld140_4 : fA Tryz.prog 140 4 23 := fun w b o => by
 simp [Instr.fieldAt, Tryz.runUnderlying140, Instr.sureAddr, fieldPlace, Tryz.sizeOf9, Addr.add_lit]
theorem fld140_5 : fA Tryz.prog 140 5 24 := fun w b o => by
 simp [Instr.fieldAt, Tryz.runUnderlying140, Instr.sureAddr, fieldPlace, Tryz.sizeOf3, Addr.add_lit]
theorem fld140_6 : fA Tryz.prog 140 6 25 := fun w b o => by
 simp [Instr.fieldAt, Tryz.runUnderlying140, Instr.sureAddr, fieldPlace, Tryz.sizeOf3, Addr.add_lit]
theorem fld140_7 : fA Tryz.prog 140 7 26 := fun w b o => by
 simp [Instr.fieldAt, Tryz.runUnderlying140, Instr.sureAddr, fieldPlace, Tryz.sizeOf3, Addr.add_lit]
theorem fld144_0 : fA Tryz.prog 144 0 0 := fun w b o => by
 simp [Instr.fieldAt, Tryz.runUnderlying144, Instr.sureAddr, fieldPlace, Tryz.sizeOf9, Addr.add_lit]
theorem fld144_1 : fA Tryz.prog 144 1 1 := fun w b o => by
 simp [Instr.fieldAt, Tryz.runUnderlying144, Instr.sureAddr, fieldPlace, Tryz.sizeOf4, Addr.add_lit]
theorem fld144_2 : fA Tryz.prog 144 2 2 := fun w b o => by
 simp [Instr.fieldAt, Tryz.runUnderlying144, Instr.sureAddr, fieldPlace, Tryz.sizeOf63, Addr.add_lit]
theorem fld144_3 : fA Tryz.prog 144 3 7 := fun w b o => by
 simp [Instr.fieldAt, Tryz.runUnderlying144, Instr.sureAddr, fieldPlace, Tryz.sizeOf4, Addr.add_lit]
theorem fld144_4 : fA Tryz.prog 144 4 8 := fun w b o => by
 simp [Instr.fieldAt, Tryz.runUnderlying144, Instr.sureAddr, fieldPlace, Tryz.sizeOf66, Addr.add_lit]
theorem fld144_5 : fA Tryz.prog 144 5 24 := fun w b o => by
 simp [Instr.fieldAt, Tryz.runUnderlying144, Instr.sureAddr, fieldPlace, Tryz.sizeOf56, Addr.add_lit]
theorem fld144_6 : fA Tryz.prog 144 6 25 := fun w b o => by
 simp [Instr.fieldAt, Tryz.runUnderlying144, Instr.sureAddr, fieldPlace, Tryz.sizeOf9, Addr.add_lit]
theorem fld144_7 : fA Tryz.prog 144 7 26 := fun w b o => by
 simp [Instr.fieldAt, Tryz.runUnderlying144, Instr.sureAddr, fieldPlace, Tryz.sizeOf3, Addr.add_lit]
theorem fld144_8 : fA Tryz.prog 144 8 27 := fun w b o => by
 simp [Instr.fieldAt, Tryz.runUnderlying144, Instr.sureAddr, fieldPlace, Tryz.sizeOf3, Addr.add_lit]
theorem fld144_9 : fA Tryz.prog 144 9 28 := fun w b o => by
 simp [Instr.fieldAt, Tryz.runUnderlying144, Instr.sureAddr, fieldPlace, Tryz.sizeOf3, Addr.add_lit]
theorem fld76_0 : fA Tryz.prog 76 0 0 := fun w b o => by
 simp [Instr.fieldAt, Tryz.runUnderlying76, Instr.sureAddr, fieldPlace, Tryz.sizeOf9, Addr.add_lit]
theorem fld76_1 : fA Tryz.prog 76 1 1 := fun w b o => by
 simp [Instr.fieldAt, Tryz.runUnderlying76, Instr.sureAddr, fieldPlace, Tryz.sizeOf64, Addr.add_lit]
theorem fld76_2 : fA Tryz.prog 76 2 2 := fun w b o => by
 simp [Instr.fieldAt, Tryz.runUnderlying76, Instr.sureAddr, fieldPlace, Tryz.sizeOf66, Addr.add_lit]
theorem fld182_0 : fA Tryz.prog 182 0 0 := fun w b o => by
 simp [Instr.fieldAt, Tryz.runUnderlying182, Instr.sureAddr, fieldPlace, Tryz.sizeOf64, Addr.add_lit]
theorem fld182_1 : fA Tryz.prog 182 1 1 := fun w b o => by
 simp [Instr.fieldAt, Tryz.runUnderlying182, Instr.sureAddr, fieldPlace, Tryz.sizeOf4, Addr.add_lit]
theorem fld182_2 : fA Tryz.prog 182 2 2 := fun w b o => by
 simp [Instr.fieldAt, Tryz.runUnderlying182, Instr.sureAddr, fieldPlace, Tryz.sizeOf66, Addr.add_lit]
theorem fld151_0 : fA Tryz.prog 151 0 0 := fun w b o => by
 simp [Instr.fieldAt, Tryz.runUnderlying151, Instr.sureAddr, fieldPlace, Tryz.sizeOf9, Addr.add_lit]
theorem fld151_1 : fA Tryz.prog 151 1 1 := fun w b o => by
 simp [Instr.fieldAt, Tryz.runUnderlying151, Instr.sureAddr, fieldPlace, Tryz.sizeOf66, Addr.add_lit]
theorem fld151_2 : fA Tryz.prog 151 2 17 := fun w b o => by
 simp [Instr.fieldAt, Tryz.runUnderlying151, Instr.sureAddr, fieldPlace, Tryz.sizeOf149, Addr.add_lit]
theorem fld84_0 : fA Tryz.prog 84 0 0 := fun w b o => by
 simp [Instr.fieldAt, Tryz.runUnderlying84, Instr.sureAddr, fieldPlace, Tryz.sizeOf9, Addr.add_lit]
theorem fld84_1 : fA Tryz.prog 84 1 1 := fun w b o => by
 simp [Instr.fieldAt, Tryz.runUnderlying84, Instr.sureAddr, fieldPlace, Tryz.sizeOf9, Addr.add_lit]
theorem fld84_2 : fA Tryz.prog 84 2 2 := fun w b o => by
 simp [Instr.fieldAt, Tryz.runUnderlying84, Instr.sureAddr, fieldPlace, Tryz.sizeOf4, Addr.add_lit]
theorem fld84_3 : fA Tryz.prog 84 3 3 := fun w b o => by
 simp [Instr.fieldAt, Tryz.runUnderlying84, Instr.sureAddr, fieldPlace, Tryz.sizeOf4, Addr.add_lit]
theorem fld84_4 : fA Tryz.prog 84 4 4 := fun w b o => by
 simp [Instr.fieldAt, Tryz.runUnderlying84, Instr.sureAddr, fieldPlace, Tryz.sizeOf9, Addr.add_lit]
theorem fld84_5 : fA Tryz.prog 84 5 5 := fun w b o => by
 simp [Instr.fieldAt, Tryz.runUnderlying84, Instr.sureAddr, fieldPlace, Tryz.sizeOf3, Addr.add_lit]
theorem fld157_0 : fA Tryz.prog 157 0 0 := fun w b o => by
 simp [Instr.fieldAt, Tryz.runUnderlying157, Instr.sureAddr, fieldPlace, Tryz.sizeOf9, Addr.add_lit]
theorem fld157_1 : fA Tryz.prog 157 1 1 := fun w b o => by
 simp [Instr.fieldAt, Tryz.runUnderlying157, Instr.sureAddr, fieldPlace, Tryz.sizeOf9, Addr.add_lit]
theorem fld157_2 : fA Tryz.prog 157 2 2 := fun w b o => by
 simp [Instr.fieldAt, Tryz.runUnderlying157, Instr.sureAddr, fieldPlace, Tryz.sizeOf4, Addr.add_lit]
theorem fld157_3 : fA Tryz.prog 157 3 3 := fun w b o => by
 simp [Instr.fieldAt, Tryz.runUnderlying157, Instr.sureAddr, fieldPlace, Tryz.sizeOf4, Addr.add_lit]
theorem fld157_4 : fA Tryz.prog 157 4 4 := fun w b o => by
 simp [Instr.fieldAt, Tryz.runUnderlying157, Instr.sureAddr, fieldPlace, Tryz.sizeOf44, Addr.add_lit]
theorem fld170_0 : fA Tryz.prog 170 0 0 := fun w b o => by
 simp [Instr.fieldAt, Tryz.runUnderlying170, Instr.sureAddr, fieldPlace, Tryz.sizeOf3, Addr.add_lit]
theorem fld170_1 : fA Tryz.prog 170 1 1 := fun w b o => by
 simp [Instr.fieldAt, Tryz.runUnderlying170, Instr.sureAddr, fieldPlace, Tryz.sizeOf9, Addr.add_lit]
theorem fld162_0 : fA Tryz.prog 162 0 0 := fun w b o => by
 simp [Instr.fieldAt, Tryz.runUnderlying162, Instr.sureAddr, fieldPlace, Tryz.sizeOf9, Addr.add_lit]
theorem fld162_1 : fA Tryz.prog 162 1 1 := fun w b o => by
 simp [Instr.fieldAt, Tryz.runUnderlying162, Instr.sureAddr, fieldPlace, Tryz.sizeOf160, Addr.add_lit]
theorem fld48_0 : fA Tryz.prog 48 0 0 := fun w b o => by
 simp [Instr.fieldAt, Tryz.runUnderlying48, Instr.sureAddr, fieldPlace, Tryz.sizeOf9, Addr.add_lit]
theorem fld48_1 : fA Tryz.prog 48 1 1 := fun w b o => by
 simp [Instr.fieldAt, Tryz.runUnderlying48, Instr.sureAddr, fieldPlace, Tryz.sizeOf46, Addr.add_lit]
theorem fld48_2 : fA Tryz.prog 48 2 2 := fun w b o => by
 simp [Instr.fieldAt, Tryz.runUnderlying48, Instr.sureAddr, fieldPlace, Tryz.sizeOf3, Addr.add_lit]
theorem fld48_3 : fA Tryz.prog 48 3 3 := fun w b o => by
 simp [Instr.fieldAt, Tryz.runUnderlying48, Instr.sureAddr, fieldPlace, Tryz.sizeOf3, Addr.add_lit]
theorem fld36_0 : fA Tryz.prog 36 0 0 := fun w b o => by
 simp [Instr.fieldAt, Tryz.runUnderlying36, Instr.sureAddr, fieldPlace, Tryz.sizeOf9, Addr.add_lit]
theorem fld36_1 : fA Tryz.prog 36 1 1 := fun w b o => by
 simp [Instr.fieldAt, Tryz.runUnderlying36, Instr.sureAddr, fieldPlace, Tryz.sizeOf26, Addr.add_lit]
theorem fld36_2 : fA Tryz.prog 36 2 2 := fun w b o => by
 simp [Instr.fieldAt, Tryz.runUnderlying36, Instr.sureAddr, fieldPlace, Tryz.sizeOf27, Addr.add_lit]
theorem fld36_3 : fA Tryz.prog 36 3 3 := fun w b o => by
 simp [Instr.fieldAt, Tryz.runUnderlying36, Instr.sureAddr, fieldPlace, Tryz.sizeOf28, Addr.add_lit]
theorem fld36_4 : fA Tryz.prog 36 4 4 := fun w b o => by
 simp [Instr.fieldAt, Tryz.runUnderlying36, Instr.sureAddr, fieldPlace, Tryz.sizeOf29, Addr.add_lit]
theorem fld36_5 : fA Tryz.prog 36 5 5 := fun w b o => by
 simp [Instr.fieldAt, Tryz.runUnderlying36, Instr.sureAddr, fieldPlace, Tryz.sizeOf30, Addr.add_lit]
theorem fld36_6 : fA Tryz.prog 36 6 6 := fun w b o => by
 simp [Instr.fieldAt, Tryz.runUnderlying36, Instr.sureAddr, fieldPlace, Tryz.sizeOf31, Addr.add_lit]
theorem fld36_7 : fA Tryz.prog 36 7 7 := fun w b o => by
 simp [Instr.fieldAt, Tryz.runUnderlying36, Instr.sureAddr, fieldPlace, Tryz.sizeOf32, Addr.add_lit]
theorem fld36_8 : fA Tryz.prog 36 8 8 := fun w b o => by
 simp [Instr.fieldAt, Tryz.runUnderlying36, Instr.sureAddr, fieldPlace, Tryz.sizeOf33, Addr.add_lit]
theorem fld36_9 : fA Tryz.prog 36 9 9 := fun w b o => by
 simp [Instr.fieldAt, Tryz.runUnderlying36, Instr.sureAddr, fieldPlace, Tryz.sizeOf34, Addr.add_lit]
end Go.Sx
namespace Go.Sx
open Go.Proofs
set_option maxHeartbeats 2000000 in
theorem c246 {w0 : World} {S : Nat → Prop} {p most long : Nat} (t : T) : WEnc w0 S p most long 246 (.st .test) t := by
 intro cs hr s O w hw hu
 obtain ⟨l, rfl, hlen, hF⟩ := hr.st_inv
 obtain ⟨t0, l, rfl, r0, hF⟩ := hF.cons_inv
 obtain ⟨t1, l, rfl, r1, hF⟩ := hF.cons_inv
 obtain rfl := hF.nil_inv
 simp only [Nat.reduceAdd, Ty.size] at r0 r1
 obtain ⟨n0, rfl, e0, i0⟩ := r0.int_inv
 obtain ⟨x1, rfl, e1, i1⟩ := r1.str_inv
 rw [T.wt_agg] at hu
 refine cW 12 Tryz.func246 rfl rfl rfl ?_
 refine W.sq (W.rg (WL.box rfl rfl (WL.kp [(0, ptr p), (3, ptr w.heap.size)] ⟨rfl, rfl, trivial⟩ ?_)))
 have hb := hw.own_new cs 61
 have hw1 := hw.alloc (.cells cs.toArray 61)
 have fb : Fr O w O (w.alloc (.cells cs.toArray 61)) := Fr.alloc _ _ _
 show W _ _ _ _ _ _ (w.alloc (.cells cs.toArray 61))
 generalize w.alloc (.cells cs.toArray 61) = w1 at hb hw1 fb ⊢
 have P0 : Step w0 S p most long [] [.int n0, .str x1] s O w s O w1 := ⟨hw1, fb, rfl, by omega, rfl⟩
 refine W.sq (W.rg (WL.mv rfl rfl (WL.fa rfl (fld61_0 _ _ _) rfl (WL.ld rfl (load1 iy3 (hb.cell1 e0)) rfl (WL.cl Tryz.call218 rfl rfl (e218 i0 _ _ _ P0.st P0.hd1) ?_ (fun _ _ h => by obtain ⟨_, h, _⟩ := h; simp only [enc] at h; cases h))))))
 rintro _ w' ⟨rfl, s', O', hs, f, hw'⟩
 have P1 : Step w0 S p most long [.int n0] [.str x1] s O w s' O' w' := P0.next hs f hw'
 replace hb := f.keep hb
 refine WL.kp [(0, ptr p), (3, ptr w.heap.size)] ⟨rfl, rfl, trivial⟩ ?_
 refine W.rg (WL.mv rfl rfl (WL.fa rfl (fld61_1 _ _ _) rfl (WL.ld rfl (load1 iy9 (hb.cell1 e1)) rfl (WL.cl Tryz.call151 rfl rfl (e151 i1 _ _ _ P1.st P1.hd1) ?_ (fun _ _ h => by obtain ⟨_, h, _⟩ := h; simp only [enc] at h; cases h)))))
 rintro _ w' ⟨rfl, s', O', hs, f, hw'⟩
 have P2 : Step w0 S p most long [.int n0, .str x1] [] s O w s' O' w' := P1.next hs f hw'
 replace hb := f.keep hb
 exact WL.nil fun a ha => post_end0 rfl ha ⟨rfl, _, _, (enc_flat rfl).trans P2.en, P2.fr, P2.st⟩
set_option maxHeartbeats 2000000 in
theorem c215 {w0 : World} {S : Nat → Prop} {p most long : Nat} (t : T) : WEnc w0 S p most long 215 (.st .type) t := by
 intro cs hr s O w hw hu
 obtain ⟨l, rfl, hlen, hF⟩ := hr.st_inv
 obtain ⟨t0, l, rfl, r0, hF⟩ := hF.cons_inv
 obtain ⟨t1, l, rfl, r1, hF⟩ := hF.cons_inv
 obtain ⟨t2, l, rfl, r2, hF⟩ := hF.cons_inv
 obtain ⟨t3, l, rfl, r3, hF⟩ := hF.cons_inv
 obtain rfl := hF.nil_inv
 simp only [Nat.reduceAdd, Ty.size, SN.size] at r0 r1 r2 r3
 obtain ⟨n0, rfl, e0, i0⟩ := r0.int_inv
 obtain ⟨n1, rfl, e1, i1⟩ := r1.int_inv
 obtain ⟨x3, rfl, e3, i3⟩ := r3.str_inv
 rw [T.wt_agg] at hu
 refine cW 19 Tryz.func215 rfl rfl rfl ?_
 refine W.sq (W.rg (WL.box rfl rfl (WL.kp [(0, ptr p), (3, ptr w.heap.size)] ⟨rfl, rfl, trivial⟩ ?_)))
 have hb := hw.own_new cs 63
 have hw1 := hw.alloc (.cells cs.toArray 63)
 have fb : Fr O w O (w.alloc (.cells cs.toArray 63)) := Fr.alloc _ _ _
 show W _ _ _ _ _ _ (w.alloc (.cells cs.toArray 63))
 generalize w.alloc (.cells cs.toArray 63) = w1 at hb hw1 fb ⊢
 have P0 : Step w0 S p most long [] [.int n0, .int n1, t2, .str x3] s O w s O w1 := ⟨hw1, fb, rfl, by omega, rfl⟩
 refine W.sq (W.rg (WL.mv rfl rfl (WL.fa rfl (fld63_0 _ _ _) rfl (WL.ld rfl (load1 iy3 (hb.cell1 e0)) rfl (WL.fa rfl (fld63_1 _ _ _) rfl (WL.ld rfl (load1 iy3 (hb.cell1 e1)) rfl (WL.buildSlice rfl (slice_lit2 Tryz.underlying262 ty3 Tryz.zeroValue3 rfl rfl rfl) rfl ?_)))))))
 refine WL.cl Tryz.call207 rfl rfl (c207 (ns := [n0, n1]) (ints2 i0 i1) (P0.st.alloc _) (Step.hdi (ns := [n0, n1]) P0) (P0.st.own_new _ 3)) ?_ nop
 rintro _ w' ⟨rfl, O', f, hw'⟩
 replace f := (Fr.alloc _ _ _).trans f
 have P1 : Step w0 S p most long [.int n0, .int n1] [t2, .str x3] s O w _ O' w' := P0.ints (ns := [n0, n1]) f hw'
 replace hb := f.keep hb
 refine WL.kp [(0, ptr p), (3, ptr w.heap.size)] ⟨rfl, rfl, trivial⟩ ?_
 refine W.sq (W.rg (WL.mv rfl rfl (WL.fa rfl (fld63_2 _ _ _) rfl (WL.ld rfl (loadN iy61 (Rep.one _ _ _ r2).1 (hb.blk.at_ 2 2)) rfl (WL.cl Tryz.call246 rfl rfl (c246 _ _ r2 _ _ _ P1.st P1.hd) ?_ (fun ch w' h a ha => tP (pP ha (P1.pan h (fun e => (enc_flat rfl).trans e)))))))))
 rintro _ w' ⟨rfl, s', O', hs, f, hw'⟩
 have P2 : Step w0 S p most long [.int n0, .int n1, t2] [.str x3] s O w s' O' w' := P1.next hs f hw'
 replace hb := f.keep hb
 refine WL.kp [(0, ptr p), (3, ptr w.heap.size)] ⟨rfl, rfl, trivial⟩ ?_
 refine W.rg (WL.mv rfl rfl (WL.fa rfl (fld63_3 _ _ _) rfl (WL.ld rfl (load1 iy9 (hb.cell1 e3)) rfl (WL.cl Tryz.call151 rfl rfl (e151 i3 _ _ _ P2.st P2.hd1) ?_ (fun _ _ h => by obtain ⟨_, h, _⟩ := h; simp only [enc] at h; cases h)))))
 rintro _ w' ⟨rfl, s', O', hs, f, hw'⟩
 have P3 : Step w0 S p most long [.int n0, .int n1, t2, .str x3] [] s O w s' O' w' := P2.next hs f hw'
 replace hb := f.keep hb
 exact WL.nil fun a ha => post_end0 rfl ha ⟨rfl, _, _, (enc_flat rfl).trans P3.en, P3.fr, P3.st⟩
set_option maxHeartbeats 2000000 in
theorem c209 {w0 : World} {S : Nat → Prop} {p most long : Nat} {N : Nat} (ih : ∀ t', t'.wt < N → WEnc w0 S p most long 209 (.st .expr) t') (t : T) (hN : t.wt ≤ N) : WEnc w0 S p most long 209 (.st .expr) t := by
 intro cs hr s O w hw hu
 obtain ⟨l, rfl, hlen, hF⟩ := hr.st_inv
 obtain ⟨t0, l, rfl, r0, hF⟩ := hF.cons_inv
 obtain ⟨t1, l, rfl, r1, hF⟩ := hF.cons_inv
 obtain ⟨t2, l, rfl, r2, hF⟩ := hF.cons_inv
 obtain ⟨t3, l, rfl, r3, hF⟩ := hF.cons_inv
 obtain ⟨t4, l, rfl, r4, hF⟩ := hF.cons_inv
 obtain ⟨t5, l, rfl, r5, hF⟩ := hF.cons_inv
 obtain ⟨t6, l, rfl, r6, hF⟩ := hF.cons_inv
 obtain ⟨t7, l, rfl, r7, hF⟩ := hF.cons_inv
 obtain ⟨t8, l, rfl, r8, hF⟩ := hF.cons_inv
 obtain ⟨t9, l, rfl, r9, hF⟩ := hF.cons_inv
 obtain rfl := hF.nil_inv
 simp only [Nat.reduceAdd, Ty.size, SN.size] at r0 r1 r2 r3 r4 r5 r6 r7 r8 r9
 obtain ⟨n0, rfl, e0, i0⟩ := r0.int_inv
 obtain ⟨x1, rfl, e1, i1⟩ := r1.str_inv
 obtain ⟨x2, rfl, e2, i2⟩ := r2.str_inv
 obtain ⟨n3, rfl, e3, i3⟩ := r3.int_inv
 obtain ⟨l, rfl, hlA, hA⟩ := r4.st_inv
 obtain ⟨tA, l, rfl, rA, hA⟩ := hA.cons_inv
 obtain ⟨tB, l, rfl, rB, hA⟩ := hA.cons_inv
 obtain rfl := hA.nil_inv
 simp only [Nat.reduceAdd, Ty.size] at rA rB
 rw [drop_take_sub _ _ _ _ _ (by decide)] at rA rB
 obtain ⟨nA, rfl, eA, iA⟩ := rA.int_inv
 obtain ⟨xB, rfl, eB, iB⟩ := rB.str_inv
 obtain ⟨n5, rfl, e5, i5⟩ := r5.int_inv
 obtain ⟨v8, e8⟩ := one_cell r8 rfl
 rw [e8] at r8
 obtain ⟨l8, rfl, _⟩ := r8.list_inv
 obtain ⟨v9, e9⟩ := one_cell r9 rfl
 rw [e9] at r9
 obtain ⟨l9, rfl, _⟩ := r9.list_inv
 rw [T.wt_agg] at hu
 replace hu : s.use + 11 * (T.wts [.int n0, .str x1, .str x2, .int n3, .int nA, .str xB, .int n5, t6, t7, .list l8, .list l9] + 1) ≤ 2 ^ 40 := Nat.le_trans (Nat.add_le_add_left (Nat.mul_le_mul_left _ (Nat.add_le_add_right (T.wts_flat (sn := .atom) (l := [.int nA, .str xB]) (r := [.int n5, t6, t7, .list l8, .list l9]) [.int n0, .str x1, .str x2, .int n3]) 1)) _) hu
 refine calls_WD 55 Tryz.func209 rfl rfl rfl ?_
 refine W.sq (W.rg (WL.box rfl rfl (WL.kp [(0, ptr p), (3, ptr w.heap.size)] ⟨rfl, rfl, trivial⟩ ?_)))
 have hb := hw.own_new cs 66
 have hw1 := hw.alloc (.cells cs.toArray 66)
 have fb : Fr O w O (w.alloc (.cells cs.toArray 66)) := Fr.alloc _ _ _
 show W _ _ _ _ _ _ (w.alloc (.cells cs.toArray 66))
 generalize w.alloc (.cells cs.toArray 66) = w1 at hb hw1 fb ⊢
 refine W.sq (W.rg (WL.mv rfl rfl (WL.cl Tryz.call150 rfl rfl (c150 hw1 (by omega)) ?_ ?_)))
 rotate_left
 · rintro ch w2 ⟨rfl, ho, O2, f2, hw2⟩ a ha
   exact tP (post_panD0 ha ⟨rfl, enc_deep_out rfl ho, _, O2, fb.trans f2, hw2, Nat.lt_succ_self _, by show s.nest + 1 ≤ _; simp only [WS.use] at hu; omega⟩)
 rintro _ w2 ⟨hno, bx, O2, rfl, hx, _, f2, hw2⟩
 replace hb := f2.keep hb
 refine WL.defer rfl (WL.kp [(0, ptr p), (3, ptr w.heap.size)] ⟨rfl, rfl, trivial⟩ ?_)
 have hu0 : ({ s with nest := s.nest + 1 } : WS).use = s.use + 1 := by simp only [WS.use]; omega
 have P0 : Step w0 S p most long [] [.int n0, .str x1, .str x2, .int n3, .int nA, .str xB, .int n5, t6, t7, .list l8, .list l9] { s with nest := s.nest + 1 } O w { s with nest := s.nest + 1 } O2 w2 := ⟨hw2, fb.trans f2, rfl, by rw [hu0]; omega, rfl⟩
 refine W.sq (W.rg (WL.mv rfl rfl (WL.fa rfl (fld66_0 _ _ _) rfl (WL.ld rfl (load1 iy3 (hb.cell1 e0)) rfl (WL.cl Tryz.call218 rfl rfl (e218 i0 _ _ _ P0.st P0.hd1) ?_ (fun _ _ h => by obtain ⟨_, h, _⟩ := h; simp only [enc] at h; cases h))))))
 rintro _ w' ⟨rfl, s', O', hs, f, hw'⟩
 have P1 : Step w0 S p most long [.int n0] [.str x1, .str x2, .int n3, .int nA, .str xB, .int n5, t6, t7, .list l8, .list l9] { s with nest := s.nest + 1 } O w s' O' w' := P0.next hs f hw'
 replace hb := f.keep hb
 replace hx := f.keep hx
 refine WL.kp [(0, ptr p), (3, ptr w.heap.size)] ⟨rfl, rfl, trivial⟩ ?_
 refine W.sq (W.rg (WL.mv rfl rfl (WL.fa rfl (fld66_1 _ _ _) rfl (WL.ld rfl (load1 iy9 (hb.cell1 e1)) rfl (WL.cl Tryz.call151 rfl rfl (e151 i1 _ _ _ P1.st P1.hd1) ?_ (fun _ _ h => by obtain ⟨_, h, _⟩ := h; simp only [enc] at h; cases h))))))
 rintro _ w' ⟨rfl, s', O', hs, f, hw'⟩
 have P2 : Step w0 S p most long [.int n0, .str x1] [.str x2, .int n3, .int nA, .str xB, .int n5, t6, t7, .list l8, .list l9] { s with nest := s.nest + 1 } O w s' O' w' := P1.next hs f hw'
 replace hb := f.keep hb
 replace hx := f.keep hx
 refine WL.kp [(0, ptr p), (3, ptr w.heap.size)] ⟨rfl, rfl, trivial⟩ ?_
 refine W.sq (W.rg (WL.mv rfl rfl (WL.fa rfl (fld66_2 _ _ _) rfl (WL.ld rfl (load1 iy9 (hb.cell1 e2)) rfl (WL.cl Tryz.call151 rfl rfl (e151 i2 _ _ _ P2.st P2.hd1) ?_ (fun _ _ h => by obtain ⟨_, h, _⟩ := h; simp only [enc] at h; cases h))))))
 rintro _ w' ⟨rfl, s', O', hs, f, hw'⟩
 have P3 : Step w0 S p most long [.int n0, .str x1, .str x2] [.int n3, .int nA, .str xB, .int n5, t6, t7, .list l8, .list l9] { s with nest := s.nest + 1 } O w s' O' w' := P2.next hs f hw'
 replace hb := f.keep hb
 replace hx := f.keep hx
 refine WL.kp [(0, ptr p), (3, ptr w.heap.size)] ⟨rfl, rfl, trivial⟩ ?_
 refine W.sq (W.rg (WL.mv rfl rfl (WL.fa rfl (fld66_3 _ _ _) rfl (WL.ld rfl (load1 iy3 (hb.cell1 e3)) rfl (WL.fa rfl (fld66_4 _ _ _) rfl (WL.fa rfl (fld59_0 _ _ _) rfl (WL.ld rfl (load1 iy3 (hb.cell1 eA)) rfl (WL.buildSlice rfl (slice_lit2 Tryz.underlying262 ty3 Tryz.zeroValue3 rfl rfl rfl) rfl ?_))))))))
 refine WL.cl Tryz.call207 rfl rfl (c207 (ns := [n3, nA]) (ints2 i3 iA) (P3.st.alloc _) (Step.hdi (ns := [n3, nA]) P3) (P3.st.own_new _ 3)) ?_ nop
 rintro _ w' ⟨rfl, O', f, hw'⟩
 replace f := (Fr.alloc _ _ _).trans f
 have P4 : Step w0 S p most long [.int n0, .str x1, .str x2, .int n3, .int nA] [.str xB, .int n5, t6, t7, .list l8, .list l9] { s with nest := s.nest + 1 } O w _ O' w' := P3.ints (ns := [n3, nA]) f hw'
 replace hb := f.keep hb
 replace hx := f.keep hx
 refine WL.kp [(0, ptr p), (3, ptr w.heap.size)] ⟨rfl, rfl, trivial⟩ ?_
 refine W.sq (W.rg (WL.mv rfl rfl (WL.fa rfl (fld66_4 _ _ _) rfl (WL.fa rfl (fld59_1 _ _ _) rfl (WL.ld rfl (load1 iy9 (hb.cell1 eB)) rfl (WL.cl Tryz.call151 rfl rfl (e151 iB _ _ _ P4.st P4.hd1) ?_ (fun _ _ h => by obtain ⟨_, h, _⟩ := h; simp only [enc] at h; cases h)))))))
 rintro _ w' ⟨rfl, s', O', hs, f, hw'⟩
 have P5 : Step w0 S p most long [.int n0, .str x1, .str x2, .int n3, .int nA, .str xB] [.int n5, t6, t7, .list l8, .list l9] { s with nest := s.nest + 1 } O w s' O' w' := P4.next hs f hw'
 replace hb := f.keep hb
 replace hx := f.keep hx
 refine WL.kp [(0, ptr p), (3, ptr w.heap.size)] ⟨rfl, rfl, trivial⟩ ?_
 refine W.sq (W.rg (WL.mv rfl rfl (WL.fa rfl (fld66_5 _ _ _) rfl (WL.ld rfl (load1 iy3 (hb.cell1 e5)) rfl (WL.cl Tryz.call218 rfl rfl (e218 i5 _ _ _ P5.st P5.hd1) ?_ (fun _ _ h => by obtain ⟨_, h, _⟩ := h; simp only [enc] at h; cases h))))))
 rintro _ w' ⟨rfl, s', O', hs, f, hw'⟩
 have P6 : Step w0 S p most long [.int n0, .str x1, .str x2, .int n3, .int nA, .str xB, .int n5] [t6, t7, .list l8, .list l9] { s with nest := s.nest + 1 } O w s' O' w' := P5.next hs f hw'
 replace hb := f.keep hb
 replace hx := f.keep hx
 refine WL.kp [(0, ptr p), (3, ptr w.heap.size)] ⟨rfl, rfl, trivial⟩ ?_
 refine W.sq (W.rg (WL.mv rfl rfl (WL.fa rfl (fld66_6 _ _ _) rfl (WL.ld rfl (loadN iy61 (Rep.one _ _ _ r6).1 (hb.blk.at_ 7 2)) rfl (WL.cl Tryz.call246 rfl rfl (c246 _ _ r6 _ _ _ P6.st P6.hd) ?_ (fun ch w' h a ha => tP (post_panD ha (P6.panD hx rfl h (encL_flatAt (sn := .atom) (l := [.int nA, .str xB]) (r := [.int n5, t6, t7, .list l8, .list l9]) [.int n0, .str x1, .str x2, .int n3] rfl).symm))))))))
 rintro _ w' ⟨rfl, s', O', hs, f, hw'⟩
 have P7 : Step w0 S p most long [.int n0, .str x1, .str x2, .int n3, .int nA, .str xB, .int n5, t6] [t7, .list l8, .list l9] { s with nest := s.nest + 1 } O w s' O' w' := P6.next hs f hw'
 replace hb := f.keep hb
 replace hx := f.keep hx
 refine WL.kp [(0, ptr p), (3, ptr w.heap.size)] ⟨rfl, rfl, trivial⟩ ?_
 refine W.sq (W.rg (WL.mv rfl rfl (WL.fa rfl (fld66_7 _ _ _) rfl (WL.ld rfl (loadN iy63 (Rep.one _ _ _ r7).1 (hb.blk.at_ 9 5)) rfl (WL.cl Tryz.call215 rfl rfl (c215 _ _ r7 _ _ _ P7.st P7.hd) ?_ (fun ch w' h a ha => tP (post_panD ha (P7.panD hx rfl h (encL_flatAt (sn := .atom) (l := [.int nA, .str xB]) (r := [.int n5, t6, t7, .list l8, .list l9]) [.int n0, .str x1, .str x2, .int n3] rfl).symm))))))))
 rintro _ w' ⟨rfl, s', O', hs, f, hw'⟩
 have P8 : Step w0 S p most long [.int n0, .str x1, .str x2, .int n3, .int nA, .str xB, .int n5, t6, t7] [.list l8, .list l9] { s with nest := s.nest + 1 } O w s' O' w' := P7.next hs f hw'
 replace hb := f.keep hb
 replace hx := f.keep hx
 refine WL.kp [(0, ptr p), (3, ptr w.heap.size)] ⟨rfl, rfl, trivial⟩ ?_
 refine W.sq (W.rg (WL.mv rfl rfl (WL.fa rfl (fld66_8 _ _ _) rfl (WL.ld rfl (load1 iy44 (hb.cell1 e8)) rfl (WL.mv rfl rfl (WL.makeFunc rfl rfl rfl (WL.cl Tryz.call210 rfl rfl (c210 (fun t _ => w151 t) _ r8 _ _ _ P8.st P8.hdl) ?_ (fun ch w' h a ha => tP (post_panD ha (P8.panD hx rfl h (encL_flatAt (sn := .atom) (l := [.int nA, .str xB]) (r := [.int n5, t6, t7, .list l8, .list l9]) [.int n0, .str x1, .str x2, .int n3] rfl).symm))))))))))
 rintro _ w' ⟨rfl, s', O', hs, f, hw'⟩
 have P9 : Step w0 S p most long [.int n0, .str x1, .str x2, .int n3, .int nA, .str xB, .int n5, t6, t7, .list l8] [.list l9] { s with nest := s.nest + 1 } O w s' O' w' := P8.next hs f hw'
 replace hb := f.keep hb
 replace hx := f.keep hx
 refine WL.kp [(0, ptr p), (3, ptr w.heap.size)] ⟨rfl, rfl, trivial⟩ ?_
 refine W.rg (WL.mv rfl rfl (WL.fa rfl (fld66_9 _ _ _) rfl (WL.ld rfl (load1 iy64 (hb.cell1 e9)) rfl (WL.mv rfl rfl (WL.makeFunc rfl rfl rfl (WL.cl Tryz.call208 rfl rfl (c208 (fun t' ht => ih t' (wt_in_list hN (i := 9) rfl ht)) _ r9 _ _ _ P9.st P9.hdl) ?_ (fun ch w' h a ha => post_panD ha (P9.panD hx rfl h (encL_flatAt (sn := .atom) (l := [.int nA, .str xB]) (r := [.int n5, t6, t7, .list l8, .list l9]) [.int n0, .str x1, .str x2, .int n3] rfl).symm))))))))
 rintro _ w' ⟨rfl, s', O', hs, f, hw'⟩
 have P10 : Step w0 S p most long [.int n0, .str x1, .str x2, .int n3, .int nA, .str xB, .int n5, t6, t7, .list l8, .list l9] [] { s with nest := s.nest + 1 } O w s' O' w' := P9.next hs f hw'
 replace hb := f.keep hb
 replace hx := f.keep hx
 exact WL.nil fun a ha => post_endD ha (P10.endD rfl hx rfl hno (encL_flatAt (sn := .atom) (l := [.int nA, .str xB]) (r := [.int n5, t6, t7, .list l8, .list l9]) [.int n0, .str x1, .str x2, .int n3] rfl).symm)
theorem wExpr {w0 : World} {S : Nat → Prop} {p most long : Nat} (t : T) : WEnc w0 S p most long 209 (.st .expr) t := by
 have key : ∀ (N : Nat) (t : T), t.wt ≤ N → WEnc w0 S p most long 209 (.st .expr) t := by
  intro N
  induction N with
  | zero => intro t h; have := t.wt_pos; omega
  | succ N ih => intro t h; exact c209 (N := N + 1) (fun t' h' => ih t' (by omega)) t h
 exact key _ t (Nat.le_refl _)
end Go.Sx
namespace Go.Sx
open Go.Proofs
set_option maxHeartbeats 2000000 in
theorem c248 {w0 : World} {S : Nat → Prop} {p most long : Nat} (t : T) : WEnc w0 S p most long 248 (.st .part) t := by
 intro cs hr s O w hw hu
 obtain ⟨l, rfl, hlen, hF⟩ := hr.st_inv
 obtain ⟨t0, l, rfl, r0, hF⟩ := hF.cons_inv
 obtain ⟨t1, l, rfl, r1, hF⟩ := hF.cons_inv
 obtain ⟨t2, l, rfl, r2, hF⟩ := hF.cons_inv
 obtain rfl := hF.nil_inv
 simp only [Nat.reduceAdd, Ty.size, SN.size] at r0 r1 r2
 obtain ⟨x0, rfl, e0, i0⟩ := r0.str_inv
 obtain ⟨b1, rfl, e1⟩ := r1.bool_inv
 rw [T.wt_agg] at hu
 refine cW 17 Tryz.func248 rfl rfl rfl ?_
 refine W.sq (W.rg (WL.box rfl rfl (WL.kp [(0, ptr p), (3, ptr w.heap.size)] ⟨rfl, rfl, trivial⟩ ?_)))
 have hb := hw.own_new cs 282
 have hw1 := hw.alloc (.cells cs.toArray 282)
 have fb : Fr O w O (w.alloc (.cells cs.toArray 282)) := Fr.alloc _ _ _
 show W _ _ _ _ _ _ (w.alloc (.cells cs.toArray 282))
 generalize w.alloc (.cells cs.toArray 282) = w1 at hb hw1 fb ⊢
 have P0 : Step w0 S p most long [] [.str x0, .bool b1, t2] s O w s O w1 := ⟨hw1, fb, rfl, by omega, rfl⟩
 refine W.sq (W.rg (WL.mv rfl rfl (WL.fa rfl (fld282_0 _ _ _) rfl (WL.ld rfl (load1 iy9 (hb.cell1 e0)) rfl (WL.cl Tryz.call151 rfl rfl (e151 i0 _ _ _ P0.st P0.hd1) ?_ (fun _ _ h => by obtain ⟨_, h, _⟩ := h; simp only [enc] at h; cases h))))))
 rintro _ w' ⟨rfl, s', O', hs, f, hw'⟩
 have P1 : Step w0 S p most long [.str x0] [.bool b1, t2] s O w s' O' w' := P0.next hs f hw'
 replace hb := f.keep hb
 refine WL.kp [(0, ptr p), (3, ptr w.heap.size)] ⟨rfl, rfl, trivial⟩ ?_
 refine W.sq (W.rg (WL.mv rfl rfl (WL.fa rfl (fld282_1 _ _ _) rfl (WL.ld rfl (load1 iy4 (hb.cell1 e1)) rfl (WL.buildSlice rfl (slice_lit1 Tryz.underlying349 ty4 Tryz.zeroValue4 rfl rfl) rfl ?_)))))
 refine WL.cl Tryz.call206 rfl rfl (c206 (ns := [b1]) (P1.st.alloc _) (Step.hdb (ns := [b1]) P1) (P1.st.own_new _ 4)) ?_ nop
 rintro _ w' ⟨rfl, O', f, hw'⟩
 replace f := (Fr.alloc _ _ _).trans f
 have P2 : Step w0 S p most long [.str x0, .bool b1] [t2] s O w _ O' w' := P1.bools (ns := [b1]) f hw'
 replace hb := f.keep hb
 refine WL.kp [(0, ptr p), (3, ptr w.heap.size)] ⟨rfl, rfl, trivial⟩ ?_
 refine W.rg (WL.mv rfl rfl (WL.fa rfl (fld282_2 _ _ _) rfl (WL.ld rfl (loadN iy66 (Rep.one _ _ _ r2).1 (hb.blk.at_ 2 16)) rfl (WL.cl Tryz.call209 rfl rfl (wExpr _ _ r2 _ _ _ P2.st P2.hd) ?_ (fun ch w' h a ha => pP ha (P2.pan h (fun e => (enc_flat rfl).trans e)))))))
 rintro _ w' ⟨rfl, s', O', hs, f, hw'⟩
 have P3 : Step w0 S p most long [.str x0, .bool b1, t2] [] s O w s' O' w' := P2.next hs f hw'
 replace hb := f.keep hb
 exact WL.nil fun a ha => post_end0 rfl ha ⟨rfl, _, _, (enc_flat rfl).trans P3.en, P3.fr, P3.st⟩
set_option maxHeartbeats 2000000 in
theorem c250 {w0 : World} {S : Nat → Prop} {p most long : Nat} (t : T) : WEnc w0 S p most long 250 (.st .sort) t := by
 intro cs hr s O w hw hu
 obtain ⟨l, rfl, hlen, hF⟩ := hr.st_inv
 obtain ⟨t0, l, rfl, r0, hF⟩ := hF.cons_inv
 obtain ⟨t1, l, rfl, r1, hF⟩ := hF.cons_inv
 obtain ⟨t2, l, rfl, r2, hF⟩ := hF.cons_inv
 obtain ⟨t3, l, rfl, r3, hF⟩ := hF.cons_inv
 obtain rfl := hF.nil_inv
 simp only [Nat.reduceAdd, Ty.size, SN.size] at r0 r1 r2 r3
 obtain ⟨b1, rfl, e1⟩ := r1.bool_inv
 obtain ⟨b2, rfl, e2⟩ := r2.bool_inv
 obtain ⟨x3, rfl, e3, i3⟩ := r3.str_inv
 rw [T.wt_agg] at hu
 refine cW 19 Tryz.func250 rfl rfl rfl ?_
 refine W.sq (W.rg (WL.box rfl rfl (WL.kp [(0, ptr p), (3, ptr w.heap.size)] ⟨rfl, rfl, trivial⟩ ?_)))
 have hb := hw.own_new cs 286
 have hw1 := hw.alloc (.cells cs.toArray 286)
 have fb : Fr O w O (w.alloc (.cells cs.toArray 286)) := Fr.alloc _ _ _
 show W _ _ _ _ _ _ (w.alloc (.cells cs.toArray 286))
 generalize w.alloc (.cells cs.toArray 286) = w1 at hb hw1 fb ⊢
 have P0 : Step w0 S p most long [] [t0, .bool b1, .bool b2, .str x3] s O w s O w1 := ⟨hw1, fb, rfl, by omega, rfl⟩
 refine W.sq (W.rg (WL.mv rfl rfl (WL.fa rfl (fld286_0 _ _ _) rfl (WL.ld rfl (loadN iy66 (Rep.one _ _ _ r0).1 (hb.blk.at_ 0 16)) rfl (WL.cl Tryz.call209 rfl rfl (wExpr _ _ r0 _ _ _ P0.st P0.hd) ?_ (fun ch w' h a ha => tP (pP ha (P0.pan h (fun e => (enc_flat rfl).trans e)))))))))
 rintro _ w' ⟨rfl, s', O', hs, f, hw'⟩
 have P1 : Step w0 S p most long [t0] [.bool b1, .bool b2, .str x3] s O w s' O' w' := P0.next hs f hw'
 replace hb := f.keep hb
 refine WL.kp [(0, ptr p), (3, ptr w.heap.size)] ⟨rfl, rfl, trivial⟩ ?_
 refine W.sq (W.rg (WL.mv rfl rfl (WL.fa rfl (fld286_1 _ _ _) rfl (WL.ld rfl (load1 iy4 (hb.cell1 e1)) rfl (WL.fa rfl (fld286_2 _ _ _) rfl (WL.ld rfl (load1 iy4 (hb.cell1 e2)) rfl (WL.buildSlice rfl (slice_lit2 Tryz.underlying349 ty4 Tryz.zeroValue4 rfl rfl rfl) rfl ?_)))))))
 refine WL.cl Tryz.call206 rfl rfl (c206 (ns := [b1, b2]) (P1.st.alloc _) (Step.hdb (ns := [b1, b2]) P1) (P1.st.own_new _ 4)) ?_ nop
 rintro _ w' ⟨rfl, O', f, hw'⟩
 replace f := (Fr.alloc _ _ _).trans f
 have P2 : Step w0 S p most long [t0, .bool b1, .bool b2] [.str x3] s O w _ O' w' := P1.bools (ns := [b1, b2]) f hw'
 replace hb := f.keep hb
 refine WL.kp [(0, ptr p), (3, ptr w.heap.size)] ⟨rfl, rfl, trivial⟩ ?_
 refine W.rg (WL.mv rfl rfl (WL.fa rfl (fld286_3 _ _ _) rfl (WL.ld rfl (load1 iy9 (hb.cell1 e3)) rfl (WL.cl Tryz.call151 rfl rfl (e151 i3 _ _ _ P2.st P2.hd1) ?_ (fun _ _ h => by obtain ⟨_, h, _⟩ := h; simp only [enc] at h; cases h)))))
 rintro _ w' ⟨rfl, s', O', hs, f, hw'⟩
 have P3 : Step w0 S p most long [t0, .bool b1, .bool b2, .str x3] [] s O w s' O' w' := P2.next hs f hw'
 replace hb := f.keep hb
 exact WL.nil fun a ha => post_end0 rfl ha ⟨rfl, _, _, (enc_flat rfl).trans P3.en, P3.fr, P3.st⟩
set_option maxHeartbeats 2000000 in
theorem c252 {w0 : World} {S : Nat → Prop} {p most long : Nat} (t : T) : WEnc w0 S p most long 252 (.st .source) t := by
 intro cs hr s O w hw hu
 obtain ⟨l, rfl, hlen, hF⟩ := hr.st_inv
 obtain ⟨t0, l, rfl, r0, hF⟩ := hF.cons_inv
 obtain ⟨t1, l, rfl, r1, hF⟩ := hF.cons_inv
 obtain rfl := hF.nil_inv
 simp only [Nat.reduceAdd, Ty.size, SN.size] at r0 r1
 obtain ⟨v1, e1⟩ := one_cell r1 rfl
 rw [e1] at r1
 obtain ⟨l1, rfl, _⟩ := r1.list_inv
 rw [T.wt_agg] at hu
 refine cW 14 Tryz.func252 rfl rfl rfl ?_
 refine W.sq (W.rg (WL.box rfl rfl (WL.kp [(0, ptr p), (3, ptr w.heap.size)] ⟨rfl, rfl, trivial⟩ ?_)))
 have hb := hw.own_new cs 290
 have hw1 := hw.alloc (.cells cs.toArray 290)
 have fb : Fr O w O (w.alloc (.cells cs.toArray 290)) := Fr.alloc _ _ _
 show W _ _ _ _ _ _ (w.alloc (.cells cs.toArray 290))
 generalize w.alloc (.cells cs.toArray 290) = w1 at hb hw1 fb ⊢
 have P0 : Step w0 S p most long [] [t0, .list l1] s O w s O w1 := ⟨hw1, fb, rfl, by omega, rfl⟩
 refine W.sq (W.rg (WL.mv rfl rfl (WL.fa rfl (fld290_0 _ _ _) rfl (WL.ld rfl (loadN iy66 (Rep.one _ _ _ r0).1 (hb.blk.at_ 0 16)) rfl (WL.cl Tryz.call209 rfl rfl (wExpr _ _ r0 _ _ _ P0.st P0.hd) ?_ (fun ch w' h a ha => tP (pP ha (P0.pan h (fun e => (enc_flat rfl).trans e)))))))))
 rintro _ w' ⟨rfl, s', O', hs, f, hw'⟩
 have P1 : Step w0 S p most long [t0] [.list l1] s O w s' O' w' := P0.next hs f hw'
 replace hb := f.keep hb
 refine WL.kp [(0, ptr p), (3, ptr w.heap.size)] ⟨rfl, rfl, trivial⟩ ?_
 refine W.rg (WL.mv rfl rfl (WL.fa rfl (fld290_1 _ _ _) rfl (WL.ld rfl (load1 iy67 (hb.cell1 e1)) rfl (WL.mv rfl rfl (WL.makeFunc rfl rfl rfl (WL.cl Tryz.call249 rfl rfl (c249 (fun t _ => c250 t) _ r1 _ _ _ P1.st P1.hdl) ?_ (fun ch w' h a ha => pP ha (P1.pan h (fun e => (enc_flat rfl).trans e)))))))))
 rintro _ w' ⟨rfl, s', O', hs, f, hw'⟩
 have P2 : Step w0 S p most long [t0, .list l1] [] s O w s' O' w' := P1.next hs f hw'
 replace hb := f.keep hb
 exact WL.nil fun a ha => post_end0 rfl ha ⟨rfl, _, _, (enc_flat rfl).trans P2.en, P2.fr, P2.st⟩
set_option maxHeartbeats 2000000 in
theorem c212 {w0 : World} {S : Nat → Prop} {p most long : Nat} {N : Nat} (ih : ∀ t', t'.wt < N → WEnc w0 S p most long 214 (.st .instr) t') (t : T) (hN : t.wt ≤ N) : WEnc w0 S p most long 212 (.st .param) t := by
 intro cs hr s O w hw hu
 obtain ⟨l, rfl, hlen, hF⟩ := hr.st_inv
 obtain ⟨t0, l, rfl, r0, hF⟩ := hF.cons_inv
 obtain ⟨t1, l, rfl, r1, hF⟩ := hF.cons_inv
 obtain ⟨t2, l, rfl, r2, hF⟩ := hF.cons_inv
 obtain ⟨t3, l, rfl, r3, hF⟩ := hF.cons_inv
 obtain ⟨t4, l, rfl, r4, hF⟩ := hF.cons_inv
 obtain rfl := hF.nil_inv
 simp only [Nat.reduceAdd, Ty.size, SN.size] at r0 r1 r2 r3 r4
 obtain ⟨x0, rfl, e0, i0⟩ := r0.str_inv
 obtain ⟨b2, rfl, e2⟩ := r2.bool_inv
 obtain ⟨v4, e4⟩ := one_cell r4 rfl
 rw [e4] at r4
 obtain ⟨l4, rfl, _⟩ := r4.list_inv
 rw [T.wt_agg] at hu
 refine cW 27 Tryz.func212 rfl rfl rfl ?_
 refine W.sq (W.rg (WL.box rfl rfl (WL.kp [(0, ptr p), (3, ptr w.heap.size)] ⟨rfl, rfl, trivial⟩ ?_)))
 have hb := hw.own_new cs 216
 have hw1 := hw.alloc (.cells cs.toArray 216)
 have fb : Fr O w O (w.alloc (.cells cs.toArray 216)) := Fr.alloc _ _ _
 show W _ _ _ _ _ _ (w.alloc (.cells cs.toArray 216))
 generalize w.alloc (.cells cs.toArray 216) = w1 at hb hw1 fb ⊢
 have P0 : Step w0 S p most long [] [.str x0, t1, .bool b2, t3, .list l4] s O w s O w1 := ⟨hw1, fb, rfl, by omega, rfl⟩
 refine W.sq (W.rg (WL.mv rfl rfl (WL.fa rfl (fld216_0 _ _ _) rfl (WL.ld rfl (load1 iy9 (hb.cell1 e0)) rfl (WL.cl Tryz.call151 rfl rfl (e151 i0 _ _ _ P0.st P0.hd1) ?_ (fun _ _ h => by obtain ⟨_, h, _⟩ := h; simp only [enc] at h; cases h))))))
 rintro _ w' ⟨rfl, s', O', hs, f, hw'⟩
 have P1 : Step w0 S p most long [.str x0] [t1, .bool b2, t3, .list l4] s O w s' O' w' := P0.next hs f hw'
 replace hb := f.keep hb
 refine WL.kp [(0, ptr p), (3, ptr w.heap.size)] ⟨rfl, rfl, trivial⟩ ?_
 refine W.sq (W.rg (WL.mv rfl rfl (WL.fa rfl (fld216_1 _ _ _) rfl (WL.ld rfl (loadN iy63 (Rep.one _ _ _ r1).1 (hb.blk.at_ 1 5)) rfl (WL.cl Tryz.call215 rfl rfl (c215 _ _ r1 _ _ _ P1.st P1.hd) ?_ (fun ch w' h a ha => tP (pP ha (P1.pan h (fun e => (enc_flat rfl).trans e)))))))))
 rintro _ w' ⟨rfl, s', O', hs, f, hw'⟩
 have P2 : Step w0 S p most long [.str x0, t1] [.bool b2, t3, .list l4] s O w s' O' w' := P1.next hs f hw'
 replace hb := f.keep hb
 refine WL.kp [(0, ptr p), (3, ptr w.heap.size)] ⟨rfl, rfl, trivial⟩ ?_
 refine W.sq (W.rg (WL.mv rfl rfl (WL.fa rfl (fld216_2 _ _ _) rfl (WL.ld rfl (load1 iy4 (hb.cell1 e2)) rfl (WL.buildSlice rfl (slice_lit1 Tryz.underlying349 ty4 Tryz.zeroValue4 rfl rfl) rfl ?_)))))
 refine WL.cl Tryz.call206 rfl rfl (c206 (ns := [b2]) (P2.st.alloc _) (Step.hdb (ns := [b2]) P2) (P2.st.own_new _ 4)) ?_ nop
 rintro _ w' ⟨rfl, O', f, hw'⟩
 replace f := (Fr.alloc _ _ _).trans f
 have P3 : Step w0 S p most long [.str x0, t1, .bool b2] [t3, .list l4] s O w _ O' w' := P2.bools (ns := [b2]) f hw'
 replace hb := f.keep hb
 refine WL.kp [(0, ptr p), (3, ptr w.heap.size)] ⟨rfl, rfl, trivial⟩ ?_
 refine W.sq (W.rg (WL.mv rfl rfl (WL.fa rfl (fld216_3 _ _ _) rfl (WL.ld rfl (loadN iy66 (Rep.one _ _ _ r3).1 (hb.blk.at_ 7 16)) rfl (WL.cl Tryz.call209 rfl rfl (wExpr _ _ r3 _ _ _ P3.st P3.hd) ?_ (fun ch w' h a ha => tP (pP ha (P3.pan h (fun e => (enc_flat rfl).trans e)))))))))
 rintro _ w' ⟨rfl, s', O', hs, f, hw'⟩
 have P4 : Step w0 S p most long [.str x0, t1, .bool b2, t3] [.list l4] s O w s' O' w' := P3.next hs f hw'
 replace hb := f.keep hb
 refine WL.kp [(0, ptr p), (3, ptr w.heap.size)] ⟨rfl, rfl, trivial⟩ ?_
 refine W.rg (WL.mv rfl rfl (WL.fa rfl (fld216_4 _ _ _) rfl (WL.ld rfl (load1 iy56 (hb.cell1 e4)) rfl (WL.mv rfl rfl (WL.makeFunc rfl rfl rfl (WL.cl Tryz.call213 rfl rfl (c213 (fun t' ht => ih t' (wt_in_list hN (i := 4) rfl ht)) _ r4 _ _ _ P4.st P4.hdl) ?_ (fun ch w' h a ha => pP ha (P4.pan h (fun e => (enc_flat rfl).trans e)))))))))
 rintro _ w' ⟨rfl, s', O', hs, f, hw'⟩
 have P5 : Step w0 S p most long [.str x0, t1, .bool b2, t3, .list l4] [] s O w s' O' w' := P4.next hs f hw'
 replace hb := f.keep hb
 exact WL.nil fun a ha => post_end0 rfl ha ⟨rfl, _, _, (enc_flat rfl).trans P5.en, P5.fr, P5.st⟩
set_option maxHeartbeats 2000000 in
theorem c254 {w0 : World} {S : Nat → Prop} {p most long : Nat} {N : Nat} (ih : ∀ t', t'.wt < N → WEnc w0 S p most long 214 (.st .instr) t') (t : T) (hN : t.wt ≤ N) : WEnc w0 S p most long 254 (.st .ctch) t := by
 intro cs hr s O w hw hu
 obtain ⟨l, rfl, hlen, hF⟩ := hr.st_inv
 obtain ⟨t0, l, rfl, r0, hF⟩ := hF.cons_inv
 obtain ⟨t1, l, rfl, r1, hF⟩ := hF.cons_inv
 obtain rfl := hF.nil_inv
 simp only [Nat.reduceAdd, Ty.size] at r0 r1
 obtain ⟨v0, e0⟩ := one_cell r0 rfl
 rw [e0] at r0
 obtain ⟨l0, rfl, _⟩ := r0.list_inv
 obtain ⟨v1, e1⟩ := one_cell r1 rfl
 rw [e1] at r1
 obtain ⟨l1, rfl, _⟩ := r1.list_inv
 rw [T.wt_agg] at hu
 refine cW 16 Tryz.func254 rfl rfl rfl ?_
 refine W.sq (W.rg (WL.box rfl rfl (WL.kp [(0, ptr p), (3, ptr w.heap.size)] ⟨rfl, rfl, trivial⟩ ?_)))
 have hb := hw.own_new cs 294
 have hw1 := hw.alloc (.cells cs.toArray 294)
 have fb : Fr O w O (w.alloc (.cells cs.toArray 294)) := Fr.alloc _ _ _
 show W _ _ _ _ _ _ (w.alloc (.cells cs.toArray 294))
 generalize w.alloc (.cells cs.toArray 294) = w1 at hb hw1 fb ⊢
 have P0 : Step w0 S p most long [] [.list l0, .list l1] s O w s O w1 := ⟨hw1, fb, rfl, by omega, rfl⟩
 refine W.sq (W.rg (WL.mv rfl rfl (WL.fa rfl (fld294_0 _ _ _) rfl (WL.ld rfl (load1 iy262 (hb.cell1 e0)) rfl (WL.mv rfl rfl (WL.makeFunc rfl rfl rfl (WL.cl Tryz.call286 rfl rfl (c286 (fun t _ => w218 t) _ r0 _ _ _ P0.st P0.hdl) ?_ (fun ch w' h a ha => tP (pP ha (P0.pan h (fun e => (enc_flat rfl).trans e)))))))))))
 rintro _ w' ⟨rfl, s', O', hs, f, hw'⟩
 have P1 : Step w0 S p most long [.list l0] [.list l1] s O w s' O' w' := P0.next hs f hw'
 replace hb := f.keep hb
 refine WL.kp [(0, ptr p), (3, ptr w.heap.size)] ⟨rfl, rfl, trivial⟩ ?_
 refine W.rg (WL.mv rfl rfl (WL.fa rfl (fld294_1 _ _ _) rfl (WL.ld rfl (load1 iy56 (hb.cell1 e1)) rfl (WL.mv rfl rfl (WL.makeFunc rfl rfl rfl (WL.cl Tryz.call213 rfl rfl (c213 (fun t' ht => ih t' (wt_in_list hN (i := 1) rfl ht)) _ r1 _ _ _ P1.st P1.hdl) ?_ (fun ch w' h a ha => pP ha (P1.pan h (fun e => (enc_flat rfl).trans e)))))))))
 rintro _ w' ⟨rfl, s', O', hs, f, hw'⟩
 have P2 : Step w0 S p most long [.list l0, .list l1] [] s O w s' O' w' := P1.next hs f hw'
 replace hb := f.keep hb
 exact WL.nil fun a ha => post_end0 rfl ha ⟨rfl, _, _, (enc_flat rfl).trans P2.en, P2.fr, P2.st⟩
set_option maxHeartbeats 2000000 in
theorem c214 {w0 : World} {S : Nat → Prop} {p most long : Nat} {N : Nat} (ih : ∀ t', t'.wt < N → WEnc w0 S p most long 214 (.st .instr) t') (t : T) (hN : t.wt ≤ N) : WEnc w0 S p most long 214 (.st .instr) t := by
 intro cs hr s O w hw hu
 obtain ⟨l, rfl, hlen, hF⟩ := hr.st_inv
 obtain ⟨t0, l, rfl, r0, hF⟩ := hF.cons_inv
 obtain ⟨t1, l, rfl, r1, hF⟩ := hF.cons_inv
 obtain ⟨t2, l, rfl, r2, hF⟩ := hF.cons_inv
 obtain ⟨t3, l, rfl, r3, hF⟩ := hF.cons_inv
 obtain ⟨t4, l, rfl, r4, hF⟩ := hF.cons_inv
 obtain ⟨t5, l, rfl, r5, hF⟩ := hF.cons_inv
 obtain ⟨t6, l, rfl, r6, hF⟩ := hF.cons_inv
 obtain ⟨t7, l, rfl, r7, hF⟩ := hF.cons_inv
 obtain ⟨t8, l, rfl, r8, hF⟩ := hF.cons_inv
 obtain ⟨t9, l, rfl, r9, hF⟩ := hF.cons_inv
 obtain ⟨t10, l, rfl, r10, hF⟩ := hF.cons_inv
 obtain ⟨t11, l, rfl, r11, hF⟩ := hF.cons_inv
 obtain ⟨t12, l, rfl, r12, hF⟩ := hF.cons_inv
 obtain ⟨t13, l, rfl, r13, hF⟩ := hF.cons_inv
 obtain ⟨t14, l, rfl, r14, hF⟩ := hF.cons_inv
 obtain ⟨t15, l, rfl, r15, hF⟩ := hF.cons_inv
 obtain ⟨t16, l, rfl, r16, hF⟩ := hF.cons_inv
 obtain rfl := hF.nil_inv
 simp only [Nat.reduceAdd, Ty.size, SN.size] at r0 r1 r2 r3 r4 r5 r6 r7 r8 r9 r10 r11 r12 r13 r14 r15 r16
 obtain ⟨n0, rfl, e0, i0⟩ := r0.int_inv
 obtain ⟨x1, rfl, e1, i1⟩ := r1.str_inv
 obtain ⟨x2, rfl, e2, i2⟩ := r2.str_inv
 obtain ⟨v3, e3⟩ := one_cell r3 rfl
 rw [e3] at r3
 obtain ⟨l3, rfl, _⟩ := r3.list_inv
 obtain ⟨v4, e4⟩ := one_cell r4 rfl
 rw [e4] at r4
 obtain ⟨l4, rfl, _⟩ := r4.list_inv
 obtain ⟨b5, rfl, e5⟩ := r5.bool_inv
 obtain ⟨v9, e9⟩ := one_cell r9 rfl
 rw [e9] at r9
 obtain ⟨l9, rfl, _⟩ := r9.list_inv
 obtain ⟨v10, e10⟩ := one_cell r10 rfl
 rw [e10] at r10
 obtain ⟨l10, rfl, _⟩ := r10.list_inv
 obtain ⟨v11, e11⟩ := one_cell r11 rfl
 rw [e11] at r11
 obtain ⟨l11, rfl, _⟩ := r11.list_inv
 obtain ⟨v12, e12⟩ := one_cell r12 rfl
 rw [e12] at r12
 obtain ⟨l12, rfl, _⟩ := r12.list_inv
 obtain ⟨v13, e13⟩ := one_cell r13 rfl
 rw [e13] at r13
 obtain ⟨l13, rfl, _⟩ := r13.list_inv
 obtain ⟨v14, e14⟩ := one_cell r14 rfl
 rw [e14] at r14
 obtain ⟨l14, rfl, _⟩ := r14.list_inv
 obtain ⟨n15, rfl, e15, i15⟩ := r15.int_inv
 obtain ⟨n16, rfl, e16, i16⟩ := r16.int_inv
 rw [T.wt_agg] at hu
 refine calls_WD 90 Tryz.func214 rfl rfl rfl ?_
 refine W.sq (W.rg (WL.box rfl rfl (WL.kp [(0, ptr p), (3, ptr w.heap.size)] ⟨rfl, rfl, trivial⟩ ?_)))
 have hb := hw.own_new cs 72
 have hw1 := hw.alloc (.cells cs.toArray 72)
 have fb : Fr O w O (w.alloc (.cells cs.toArray 72)) := Fr.alloc _ _ _
 show W _ _ _ _ _ _ (w.alloc (.cells cs.toArray 72))
 generalize w.alloc (.cells cs.toArray 72) = w1 at hb hw1 fb ⊢
 refine W.sq (W.rg (WL.mv rfl rfl (WL.cl Tryz.call150 rfl rfl (c150 hw1 (by omega)) ?_ ?_)))
 rotate_left
 · rintro ch w2 ⟨rfl, ho, O2, f2, hw2⟩ a ha
   exact tP (post_panD0 ha ⟨rfl, enc_deep_out rfl ho, _, O2, fb.trans f2, hw2, Nat.lt_succ_self _, by show s.nest + 1 ≤ _; simp only [WS.use] at hu; omega⟩)
 rintro _ w2 ⟨hno, bx, O2, rfl, hx, _, f2, hw2⟩
 replace hb := f2.keep hb
 refine WL.defer rfl (WL.kp [(0, ptr p), (3, ptr w.heap.size)] ⟨rfl, rfl, trivial⟩ ?_)
 have hu0 : ({ s with nest := s.nest + 1 } : WS).use = s.use + 1 := by simp only [WS.use]; omega
 have P0 : Step w0 S p most long [] [.int n0, .str x1, .str x2, .list l3, .list l4, .bool b5, t6, t7, t8, .list l9, .list l10, .list l11, .list l12, .list l13, .list l14, .int n15, .int n16] { s with nest := s.nest + 1 } O w { s with nest := s.nest + 1 } O2 w2 := ⟨hw2, fb.trans f2, rfl, by rw [hu0]; omega, rfl⟩
 refine W.sq (W.rg (WL.mv rfl rfl (WL.fa rfl (fld72_0 _ _ _) rfl (WL.ld rfl (load1 iy3 (hb.cell1 e0)) rfl (WL.cl Tryz.call218 rfl rfl (e218 i0 _ _ _ P0.st P0.hd1) ?_ (fun _ _ h => by obtain ⟨_, h, _⟩ := h; simp only [enc] at h; cases h))))))
 rintro _ w' ⟨rfl, s', O', hs, f, hw'⟩
 have P1 : Step w0 S p most long [.int n0] [.str x1, .str x2, .list l3, .list l4, .bool b5, t6, t7, t8, .list l9, .list l10, .list l11, .list l12, .list l13, .list l14, .int n15, .int n16] { s with nest := s.nest + 1 } O w s' O' w' := P0.next hs f hw'
 replace hb := f.keep hb
 replace hx := f.keep hx
 refine WL.kp [(0, ptr p), (3, ptr w.heap.size)] ⟨rfl, rfl, trivial⟩ ?_
 refine W.sq (W.rg (WL.mv rfl rfl (WL.fa rfl (fld72_1 _ _ _) rfl (WL.ld rfl (load1 iy9 (hb.cell1 e1)) rfl (WL.cl Tryz.call151 rfl rfl (e151 i1 _ _ _ P1.st P1.hd1) ?_ (fun _ _ h => by obtain ⟨_, h, _⟩ := h; simp only [enc] at h; cases h))))))
 rintro _ w' ⟨rfl, s', O', hs, f, hw'⟩
 have P2 : Step w0 S p most long [.int n0, .str x1] [.str x2, .list l3, .list l4, .bool b5, t6, t7, t8, .list l9, .list l10, .list l11, .list l12, .list l13, .list l14, .int n15, .int n16] { s with nest := s.nest + 1 } O w s' O' w' := P1.next hs f hw'
 replace hb := f.keep hb
 replace hx := f.keep hx
 refine WL.kp [(0, ptr p), (3, ptr w.heap.size)] ⟨rfl, rfl, trivial⟩ ?_
 refine W.sq (W.rg (WL.mv rfl rfl (WL.fa rfl (fld72_2 _ _ _) rfl (WL.ld rfl (load1 iy9 (hb.cell1 e2)) rfl (WL.cl Tryz.call151 rfl rfl (e151 i2 _ _ _ P2.st P2.hd1) ?_ (fun _ _ h => by obtain ⟨_, h, _⟩ := h; simp only [enc] at h; cases h))))))
 rintro _ w' ⟨rfl, s', O', hs, f, hw'⟩
 have P3 : Step w0 S p most long [.int n0, .str x1, .str x2] [.list l3, .list l4, .bool b5, t6, t7, t8, .list l9, .list l10, .list l11, .list l12, .list l13, .list l14, .int n15, .int n16] { s with nest := s.nest + 1 } O w s' O' w' := P2.next hs f hw'
 replace hb := f.keep hb
 replace hx := f.keep hx
 refine WL.kp [(0, ptr p), (3, ptr w.heap.size)] ⟨rfl, rfl, trivial⟩ ?_
 refine W.sq (W.rg (WL.mv rfl rfl (WL.fa rfl (fld72_3 _ _ _) rfl (WL.ld rfl (load1 iy57 (hb.cell1 e3)) rfl (WL.mv rfl rfl (WL.makeFunc rfl rfl rfl (WL.cl Tryz.call247 rfl rfl (c247 (fun t _ => c248 t) _ r3 _ _ _ P3.st P3.hdl) ?_ (fun ch w' h a ha => tP (post_panD ha (P3.panD hx rfl h rfl))))))))))
 rintro _ w' ⟨rfl, s', O', hs, f, hw'⟩
 have P4 : Step w0 S p most long [.int n0, .str x1, .str x2, .list l3] [.list l4, .bool b5, t6, t7, t8, .list l9, .list l10, .list l11, .list l12, .list l13, .list l14, .int n15, .int n16] { s with nest := s.nest + 1 } O w s' O' w' := P3.next hs f hw'
 replace hb := f.keep hb
 replace hx := f.keep hx
 refine WL.kp [(0, ptr p), (3, ptr w.heap.size)] ⟨rfl, rfl, trivial⟩ ?_
 refine W.sq (W.rg (WL.mv rfl rfl (WL.fa rfl (fld72_4 _ _ _) rfl (WL.ld rfl (load1 iy57 (hb.cell1 e4)) rfl (WL.mv rfl rfl (WL.makeFunc rfl rfl rfl (WL.cl Tryz.call247 rfl rfl (c247 (fun t _ => c248 t) _ r4 _ _ _ P4.st P4.hdl) ?_ (fun ch w' h a ha => tP (post_panD ha (P4.panD hx rfl h rfl))))))))))
 rintro _ w' ⟨rfl, s', O', hs, f, hw'⟩
 have P5 : Step w0 S p most long [.int n0, .str x1, .str x2, .list l3, .list l4] [.bool b5, t6, t7, t8, .list l9, .list l10, .list l11, .list l12, .list l13, .list l14, .int n15, .int n16] { s with nest := s.nest + 1 } O w s' O' w' := P4.next hs f hw'
 replace hb := f.keep hb
 replace hx := f.keep hx
 refine WL.kp [(0, ptr p), (3, ptr w.heap.size)] ⟨rfl, rfl, trivial⟩ ?_
 refine W.sq (W.rg (WL.mv rfl rfl (WL.fa rfl (fld72_5 _ _ _) rfl (WL.ld rfl (load1 iy4 (hb.cell1 e5)) rfl (WL.buildSlice rfl (slice_lit1 Tryz.underlying349 ty4 Tryz.zeroValue4 rfl rfl) rfl ?_)))))
 refine WL.cl Tryz.call206 rfl rfl (c206 (ns := [b5]) (P5.st.alloc _) (Step.hdb (ns := [b5]) P5) (P5.st.own_new _ 4)) ?_ nop
 rintro _ w' ⟨rfl, O', f, hw'⟩
 replace f := (Fr.alloc _ _ _).trans f
 have P6 : Step w0 S p most long [.int n0, .str x1, .str x2, .list l3, .list l4, .bool b5] [t6, t7, t8, .list l9, .list l10, .list l11, .list l12, .list l13, .list l14, .int n15, .int n16] { s with nest := s.nest + 1 } O w _ O' w' := P5.bools (ns := [b5]) f hw'
 replace hb := f.keep hb
 replace hx := f.keep hx
 refine WL.kp [(0, ptr p), (3, ptr w.heap.size)] ⟨rfl, rfl, trivial⟩ ?_
 refine W.sq (W.rg (WL.mv rfl rfl (WL.fa rfl (fld72_6 _ _ _) rfl (WL.ld rfl (loadN iy66 (Rep.one _ _ _ r6).1 (hb.blk.at_ 6 16)) rfl (WL.cl Tryz.call209 rfl rfl (wExpr _ _ r6 _ _ _ P6.st P6.hd) ?_ (fun ch w' h a ha => tP (post_panD ha (P6.panD hx rfl h rfl))))))))
 rintro _ w' ⟨rfl, s', O', hs, f, hw'⟩
 have P7 : Step w0 S p most long [.int n0, .str x1, .str x2, .list l3, .list l4, .bool b5, t6] [t7, t8, .list l9, .list l10, .list l11, .list l12, .list l13, .list l14, .int n15, .int n16] { s with nest := s.nest + 1 } O w s' O' w' := P6.next hs f hw'
 replace hb := f.keep hb
 replace hx := f.keep hx
 refine WL.kp [(0, ptr p), (3, ptr w.heap.size)] ⟨rfl, rfl, trivial⟩ ?_
 refine W.sq (W.rg (WL.mv rfl rfl (WL.fa rfl (fld72_7 _ _ _) rfl (WL.ld rfl (loadN iy66 (Rep.one _ _ _ r7).1 (hb.blk.at_ 22 16)) rfl (WL.cl Tryz.call209 rfl rfl (wExpr _ _ r7 _ _ _ P7.st P7.hd) ?_ (fun ch w' h a ha => tP (post_panD ha (P7.panD hx rfl h rfl))))))))
 rintro _ w' ⟨rfl, s', O', hs, f, hw'⟩
 have P8 : Step w0 S p most long [.int n0, .str x1, .str x2, .list l3, .list l4, .bool b5, t6, t7] [t8, .list l9, .list l10, .list l11, .list l12, .list l13, .list l14, .int n15, .int n16] { s with nest := s.nest + 1 } O w s' O' w' := P7.next hs f hw'
 replace hb := f.keep hb
 replace hx := f.keep hx
 refine WL.kp [(0, ptr p), (3, ptr w.heap.size)] ⟨rfl, rfl, trivial⟩ ?_
 refine W.sq (W.rg (WL.mv rfl rfl (WL.fa rfl (fld72_8 _ _ _) rfl (WL.ld rfl (loadN iy63 (Rep.one _ _ _ r8).1 (hb.blk.at_ 38 5)) rfl (WL.cl Tryz.call215 rfl rfl (c215 _ _ r8 _ _ _ P8.st P8.hd) ?_ (fun ch w' h a ha => tP (post_panD ha (P8.panD hx rfl h rfl))))))))
 rintro _ w' ⟨rfl, s', O', hs, f, hw'⟩
 have P9 : Step w0 S p most long [.int n0, .str x1, .str x2, .list l3, .list l4, .bool b5, t6, t7, t8] [.list l9, .list l10, .list l11, .list l12, .list l13, .list l14, .int n15, .int n16] { s with nest := s.nest + 1 } O w s' O' w' := P8.next hs f hw'
 replace hb := f.keep hb
 replace hx := f.keep hx
 refine WL.kp [(0, ptr p), (3, ptr w.heap.size)] ⟨rfl, rfl, trivial⟩ ?_
 refine W.sq (W.rg (WL.mv rfl rfl (WL.fa rfl (fld72_9 _ _ _) rfl (WL.ld rfl (load1 iy67 (hb.cell1 e9)) rfl (WL.mv rfl rfl (WL.makeFunc rfl rfl rfl (WL.cl Tryz.call249 rfl rfl (c249 (fun t _ => c250 t) _ r9 _ _ _ P9.st P9.hdl) ?_ (fun ch w' h a ha => tP (post_panD ha (P9.panD hx rfl h rfl))))))))))
 rintro _ w' ⟨rfl, s', O', hs, f, hw'⟩
 have P10 : Step w0 S p most long [.int n0, .str x1, .str x2, .list l3, .list l4, .bool b5, t6, t7, t8, .list l9] [.list l10, .list l11, .list l12, .list l13, .list l14, .int n15, .int n16] { s with nest := s.nest + 1 } O w s' O' w' := P9.next hs f hw'
 replace hb := f.keep hb
 replace hx := f.keep hx
 refine WL.kp [(0, ptr p), (3, ptr w.heap.size)] ⟨rfl, rfl, trivial⟩ ?_
 refine W.sq (W.rg (WL.mv rfl rfl (WL.fa rfl (fld72_10 _ _ _) rfl (WL.ld rfl (load1 iy68 (hb.cell1 e10)) rfl (WL.mv rfl rfl (WL.makeFunc rfl rfl rfl (WL.cl Tryz.call211 rfl rfl (c211 (fun t' ht => c212 ih t' (Nat.le_of_lt (wt_in_list hN (i := 10) rfl ht))) _ r10 _ _ _ P10.st P10.hdl) ?_ (fun ch w' h a ha => tP (post_panD ha (P10.panD hx rfl h rfl))))))))))
 rintro _ w' ⟨rfl, s', O', hs, f, hw'⟩
 have P11 : Step w0 S p most long [.int n0, .str x1, .str x2, .list l3, .list l4, .bool b5, t6, t7, t8, .list l9, .list l10] [.list l11, .list l12, .list l13, .list l14, .int n15, .int n16] { s with nest := s.nest + 1 } O w s' O' w' := P10.next hs f hw'
 replace hb := f.keep hb
 replace hx := f.keep hx
 refine WL.kp [(0, ptr p), (3, ptr w.heap.size)] ⟨rfl, rfl, trivial⟩ ?_
 refine W.sq (W.rg (WL.mv rfl rfl (WL.fa rfl (fld72_11 _ _ _) rfl (WL.ld rfl (load1 iy69 (hb.cell1 e11)) rfl (WL.mv rfl rfl (WL.makeFunc rfl rfl rfl (WL.cl Tryz.call251 rfl rfl (c251 (fun t _ => c252 t) _ r11 _ _ _ P11.st P11.hdl) ?_ (fun ch w' h a ha => tP (post_panD ha (P11.panD hx rfl h rfl))))))))))
 rintro _ w' ⟨rfl, s', O', hs, f, hw'⟩
 have P12 : Step w0 S p most long [.int n0, .str x1, .str x2, .list l3, .list l4, .bool b5, t6, t7, t8, .list l9, .list l10, .list l11] [.list l12, .list l13, .list l14, .int n15, .int n16] { s with nest := s.nest + 1 } O w s' O' w' := P11.next hs f hw'
 replace hb := f.keep hb
 replace hx := f.keep hx
 refine WL.kp [(0, ptr p), (3, ptr w.heap.size)] ⟨rfl, rfl, trivial⟩ ?_
 refine W.sq (W.rg (WL.mv rfl rfl (WL.fa rfl (fld72_12 _ _ _) rfl (WL.ld rfl (load1 iy70 (hb.cell1 e12)) rfl (WL.mv rfl rfl (WL.makeFunc rfl rfl rfl (WL.cl Tryz.call253 rfl rfl (c253 (fun t' ht => c254 ih t' (Nat.le_of_lt (wt_in_list hN (i := 12) rfl ht))) _ r12 _ _ _ P12.st P12.hdl) ?_ (fun ch w' h a ha => tP (post_panD ha (P12.panD hx rfl h rfl))))))))))
 rintro _ w' ⟨rfl, s', O', hs, f, hw'⟩
 have P13 : Step w0 S p most long [.int n0, .str x1, .str x2, .list l3, .list l4, .bool b5, t6, t7, t8, .list l9, .list l10, .list l11, .list l12] [.list l13, .list l14, .int n15, .int n16] { s with nest := s.nest + 1 } O w s' O' w' := P12.next hs f hw'
 replace hb := f.keep hb
 replace hx := f.keep hx
 refine WL.kp [(0, ptr p), (3, ptr w.heap.size)] ⟨rfl, rfl, trivial⟩ ?_
 refine W.sq (W.rg (WL.mv rfl rfl (WL.fa rfl (fld72_13 _ _ _) rfl (WL.ld rfl (load1 iy56 (hb.cell1 e13)) rfl (WL.mv rfl rfl (WL.makeFunc rfl rfl rfl (WL.cl Tryz.call213 rfl rfl (c213 (fun t' ht => ih t' (wt_in_list hN (i := 13) rfl ht)) _ r13 _ _ _ P13.st P13.hdl) ?_ (fun ch w' h a ha => tP (post_panD ha (P13.panD hx rfl h rfl))))))))))
 rintro _ w' ⟨rfl, s', O', hs, f, hw'⟩
 have P14 : Step w0 S p most long [.int n0, .str x1, .str x2, .list l3, .list l4, .bool b5, t6, t7, t8, .list l9, .list l10, .list l11, .list l12, .list l13] [.list l14, .int n15, .int n16] { s with nest := s.nest + 1 } O w s' O' w' := P13.next hs f hw'
 replace hb := f.keep hb
 replace hx := f.keep hx
 refine WL.kp [(0, ptr p), (3, ptr w.heap.size)] ⟨rfl, rfl, trivial⟩ ?_
 refine W.sq (W.rg (WL.mv rfl rfl (WL.fa rfl (fld72_14 _ _ _) rfl (WL.ld rfl (load1 iy56 (hb.cell1 e14)) rfl (WL.mv rfl rfl (WL.makeFunc rfl rfl rfl (WL.cl Tryz.call213 rfl rfl (c213 (fun t' ht => ih t' (wt_in_list hN (i := 14) rfl ht)) _ r14 _ _ _ P14.st P14.hdl) ?_ (fun ch w' h a ha => tP (post_panD ha (P14.panD hx rfl h rfl))))))))))
 rintro _ w' ⟨rfl, s', O', hs, f, hw'⟩
 have P15 : Step w0 S p most long [.int n0, .str x1, .str x2, .list l3, .list l4, .bool b5, t6, t7, t8, .list l9, .list l10, .list l11, .list l12, .list l13, .list l14] [.int n15, .int n16] { s with nest := s.nest + 1 } O w s' O' w' := P14.next hs f hw'
 replace hb := f.keep hb
 replace hx := f.keep hx
 refine WL.kp [(0, ptr p), (3, ptr w.heap.size)] ⟨rfl, rfl, trivial⟩ ?_
 refine W.rg (WL.mv rfl rfl (WL.fa rfl (fld72_15 _ _ _) rfl (WL.ld rfl (load1 iy3 (hb.cell1 e15)) rfl (WL.fa rfl (fld72_16 _ _ _) rfl (WL.ld rfl (load1 iy3 (hb.cell1 e16)) rfl (WL.buildSlice rfl (slice_lit2 Tryz.underlying262 ty3 Tryz.zeroValue3 rfl rfl rfl) rfl ?_))))))
 refine WL.cl Tryz.call207 rfl rfl (c207 (ns := [n15, n16]) (ints2 i15 i16) (P15.st.alloc _) (Step.hdi (ns := [n15, n16]) P15) (P15.st.own_new _ 3)) ?_ nop
 rintro _ w' ⟨rfl, O', f, hw'⟩
 replace f := (Fr.alloc _ _ _).trans f
 have P16 : Step w0 S p most long [.int n0, .str x1, .str x2, .list l3, .list l4, .bool b5, t6, t7, t8, .list l9, .list l10, .list l11, .list l12, .list l13, .list l14, .int n15, .int n16] [] { s with nest := s.nest + 1 } O w _ O' w' := P15.ints (ns := [n15, n16]) f hw'
 replace hb := f.keep hb
 replace hx := f.keep hx
 exact WL.nil fun a ha => post_endD ha (P16.endD rfl hx rfl hno rfl)
theorem wInstr {w0 : World} {S : Nat → Prop} {p most long : Nat} (t : T) : WEnc w0 S p most long 214 (.st .instr) t := by
 have key : ∀ (N : Nat) (t : T), t.wt ≤ N → WEnc w0 S p most long 214 (.st .instr) t := by
  intro N
  induction N with
  | zero => intro t h; have := t.wt_pos; omega
  | succ N ih => intro t h; exact c214 (N := N + 1) (fun t' h' => ih t' (by omega)) t h
 exact key _ t (Nat.le_refl _)
theorem wParam {w0 : World} {S : Nat → Prop} {p most long : Nat} (t : T) : WEnc w0 S p most long 212 (.st .param) t := c212 (N := t.wt) (fun t' _ => wInstr t') t (Nat.le_refl _)
theorem wCtch {w0 : World} {S : Nat → Prop} {p most long : Nat} (t : T) : WEnc w0 S p most long 254 (.st .ctch) t := c254 (N := t.wt) (fun t' _ => wInstr t') t (Nat.le_refl _)
end Go.Sx
