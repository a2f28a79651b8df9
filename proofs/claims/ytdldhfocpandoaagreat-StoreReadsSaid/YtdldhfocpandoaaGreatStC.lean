import Derived.Test.YtdldhfocpandoaaGreatStA
import Derived.Deep.Quiet
import Derived.Test.YtdldhfocpandoaaGreatStB
set_option maxHeartbeats 8000000
set_option maxRecDepth 8000
namespace Go.Sx
def QL (P : Program) (ops : Array Oper) (C : World → Prop) (Q : Act → Prop) (l : List Oper) (n : Nat) (ds : List Deferred) (m : Env) : Prop :=
 ∀ a, Loc n ds m a → wpQuiet P ops C Q l a
section
variable {P : Program} {ops : Array Oper} {C : World → Prop} {Q : Act → Prop} {rest : List Oper} {n : Nat} {ds : List Deferred} {m : Env} {d : Nat} {ty : TypeId} {pos : String} {aft : Array Edge}
theorem C_ {id : Nat} {l : List Oper} {Q : Exit → Act → World → Prop} {w : World} (C : World → Prop) (hm : P.follows .mixedOrders = true) (hB : Region.lexB .any l.toArray = true) (hC : C w.drew)
 (h : QL P l.toArray C (fun a' => ∀ w', C w' → Q .normal a' w') l n ds m) : W P (.region id l.toArray true) Q n ds m w :=
 fun a ha => wp_region_quiet (C := C) hm hB hC (by simpa using h a ha)
theorem Ll (h : ∀ a, Loc n ds m a → Q a) : QL P ops C Q [] n ds m := fun a ha => h a ha
theorem Bm {y : Code} {Q : Exit → Act → World → Prop} (h : ∀ w', C w' → W P y Q n ds m w') : QL P ops C (fun a' => ∀ w', C w' → Exit.then (y.wp P Q) Q .normal a' w') [] n ds m :=
 fun a ha w' hw => h w' hw a ha
theorem E3 {o : Oper} {v : Value} (hg : o.guard = none) (hd : o.dst = some d) (hb : Nat.blt d n = true)
 (hr : ∀ a w, Loc n ds m a → C w → (execOp a.eval o).run P w = .ok (.value v) w)
 (h : QL P ops C Q rest n ds ((d, v) :: m)) : QL P ops C Q (o :: rest) n ds m := by
 intro a ha
 unfold wpQuiet
 rw [if_pos (by simp [Region.wanted, hg])]
 refine ⟨v, fun w hw => ?_, ?_⟩
 · unfold Oper.quietAt
   rw [hr a w ha hw]
   exact ⟨rfl, rfl⟩
 · rw [hd]; exact h _ (ha.put d v hb)
theorem Ak {op : Op} {j : Nat} {want : Bool} {o' : Oper} {dj : Nat}
 (hj : ops[j]? = some o') (hdj : o'.dst = some dj) (hv : m.get dj = some (.bool want))
 (h : QL P ops C Q (⟨some d, op, ty, pos, aft, none⟩ :: rest) n ds m) : QL P ops C Q (⟨some d, op, ty, pos, aft, some (j, want)⟩ :: rest) n ds m := by
 intro a ha
 have h1 := h a ha
 unfold wpQuiet at h1 ⊢
 have hw : Region.wanted ⟨some d, op, ty, pos, aft, some (j, want)⟩ (yielded ops a.tmps) = true := by
  simp [Region.wanted, yielded, hj, hdj, ha.slot dj _ hv]
 have hw' : Region.wanted ⟨some d, op, ty, pos, aft, none⟩ (yielded ops a.tmps) = true := by simp [Region.wanted]
 rw [if_pos hw]
 rw [if_pos hw'] at h1
 exact h1
theorem CR {op : Op} {j : Nat} {want : Bool} {o' : Oper} {dj : Nat} {vj : Value}
 (hj : ops[j]? = some o') (hdj : o'.dst = some dj) (hv : m.get dj = some vj) (hn : Io vj want = false) (hb : Nat.blt d n = true)
 (h : QL P ops C Q rest n ds ((d, undef) :: m)) : QL P ops C Q (⟨some d, op, ty, pos, aft, some (j, want)⟩ :: rest) n ds m := by
 intro a ha
 have h1 := h _ (ha.put d undef hb)
 unfold wpQuiet
 have hw : Region.wanted ⟨some d, op, ty, pos, aft, some (j, want)⟩ (yielded ops a.tmps) = false := by
  simp only [Region.wanted, yielded, hj, hdj, Option.bind_some, ha.slot dj _ hv]
  cases vj <;> simp_all [Io]
 rw [hw]
 exact h1
theorem A6 {x : Operand} {v : Value} (hx : ev m x = some v) (hb : Nat.blt d n = true) (h : QL P ops C Q rest n ds ((d, v) :: m)) :
 QL P ops C Q (⟨some d, .move x, ty, pos, aft, none⟩ :: rest) n ds m :=
 E3 rfl rfl hb (fun a w ha _ => by simp [execOp, ha.eval hx]) h
theorem KC {x : Operand} {v : Value} (hx : ev m x = some v) (hb : Nat.blt d n = true) (h : QL P ops C Q rest n ds ((d, v) :: m)) :
 QL P ops C Q (⟨some d, .assign x, ty, pos, aft, none⟩ :: rest) n ds m :=
 E3 rfl rfl hb (fun a w ha _ => by simp [execOp, ha.eval hx]) h
theorem BM {c x y : Operand} {b : Bool} {v : Value} (hc : ev m c = some (.bool b)) (hx : (match b with | true => ev m x | false => ev m y) = some v) (hb : Nat.blt d n = true)
 (h : QL P ops C Q rest n ds ((d, v) :: m)) : QL P ops C Q (⟨some d, .pick c x y, ty, pos, aft, none⟩ :: rest) n ds m :=
 E3 rfl rfl hb (fun a w ha _ => by
  cases b
  · simp [execOp, ha.eval hc, asBool, ha.eval hx]
  · simp [execOp, ha.eval hc, asBool, ha.eval hx]) h
theorem AM {t : TypeId} {x : Operand} {p : Addr} {v : Value} (hx : ev m x = some (.pointer (some p))) (hr : ∀ w, C w → (loadVar t p).run P w = .ok v w) (hb : Nat.blt d n = true)
 (h : QL P ops C Q rest n ds ((d, v) :: m)) : QL P ops C Q (⟨some d, .load t x, ty, pos, aft, none⟩ :: rest) n ds m :=
 E3 rfl rfl hb (fun a w ha hw => by simp [execOp, ha.eval hx, Instr.loadAt, Instr.sureAddr, hr w hw]) h
theorem Cg {x : Operand} {p : Addr} (hx : ev m x = some (.pointer (some p))) (hb : Nat.blt d n = true)
 (h : QL P ops C Q rest n ds ((d, .pointer (some p)) :: m)) : QL P ops C Q (⟨some d, .nilCheck x, ty, pos, aft, none⟩ :: rest) n ds m :=
 E3 rfl rfl hb (fun a w ha _ => by simp [execOp, ha.eval hx]) h
theorem A5 {s k : Nat} {x : Operand} {p q : Addr} (hx : ev m x = some (.pointer (some p))) (hr : ∀ w, (Instr.fieldAt s (.pointer (some p)) k).run P w = .ok (.pointer (some q)) w) (hb : Nat.blt d n = true)
 (h : QL P ops C Q rest n ds ((d, .pointer (some q)) :: m)) : QL P ops C Q (⟨some d, .fieldAddr s x k, ty, pos, aft, none⟩ :: rest) n ds m :=
 E3 rfl rfl hb (fun a w ha _ => by simp [execOp, ha.eval hx, hr w]) h
theorem AC {t : Nat} {x y : Operand} {vx vy v : Value} (hx : ev m x = some vx) (hy : ev m y = some vy) (hr : ∀ w, (Instr.indexAt t vx vy).run P w = .ok v w) (hb : Nat.blt d n = true)
 (h : QL P ops C Q rest n ds ((d, v) :: m)) : QL P ops C Q (⟨some d, .indexAddr t x y, ty, pos, aft, none⟩ :: rest) n ds m :=
 E3 rfl rfl hb (fun a w ha _ => by simp [execOp, ha.eval hx, ha.eval hy, hr w]) h
theorem CW {op : BinOp} {t u : Nat} {x y : Operand} {k k' : IntKind} {i j : Int} {v : Value} (hx : ev m x = some (.int k i)) (hy : ev m y = some (.int k' j))
 (hr : ∀ w, (binOp op t (.int k i) (.int k' j)).run P w = .ok v w) (hb : Nat.blt d n = true)
 (h : QL P ops C Q rest n ds ((d, v) :: m)) : QL P ops C Q (⟨some d, .binOp op t x y u, ty, pos, aft, none⟩ :: rest) n ds m :=
 E3 rfl rfl hb (fun a w ha _ => by
  have he : eqGuard op t x y (.int k i) (.int k' j) = pure () := by unfold eqGuard; cases op <;> rfl
  simp [execOp, ha.eval hx, ha.eval hy, he, hr w]) h
theorem Bc {op : BinOp} {t u : Nat} {x y : Operand} {vx vy v : Value} (hx : ev m x = some vx) (hy : ev m y = some vy)
 (hg : ∀ w, (eqGuard op t x y vx vy).run P w = .ok () w) (hr : ∀ w, (binOp op t vx vy).run P w = .ok v w) (hb : Nat.blt d n = true)
 (h : QL P ops C Q rest n ds ((d, v) :: m)) : QL P ops C Q (⟨some d, .binOp op t x y u, ty, pos, aft, none⟩ :: rest) n ds m :=
 E3 rfl rfl hb (fun a w ha _ => by simp [execOp, ha.eval hx, ha.eval hy, hg w, hr w]) h
theorem C4 {t : Nat} {x : Operand} {b : Bool} (hx : ev m x = some (.bool b)) (hb : Nat.blt d n = true)
 (h : QL P ops C Q rest n ds ((d, .bool (!b)) :: m)) : QL P ops C Q (⟨some d, .unOp .not t x, ty, pos, aft, none⟩ :: rest) n ds m :=
 E3 rfl rfl hb (fun a w ha _ => by simp [execOp, ha.eval hx, Op.unary]) h
theorem Kr {s t : Nat} {x : Operand} {vx v : Value} (hx : ev m x = some vx) (hr : ∀ w, (Go.convert s t vx).run P w = .ok v w) (hb : Nat.blt d n = true)
 (h : QL P ops C Q rest n ds ((d, v) :: m)) : QL P ops C Q (⟨some d, .convert s t x, ty, pos, aft, none⟩ :: rest) n ds m :=
 E3 rfl rfl hb (fun a w ha _ => by simp [execOp, ha.eval hx, hr w]) h
theorem GK {t : TypeId} {x : Operand} {vx v : Value} (hx : ev m x = some vx) (hr : ∀ w, (Builtin.len_ #[t] ty #[vx]).run P w = .ok v w) (hb : Nat.blt d n = true)
 (h : QL P ops C Q rest n ds ((d, v) :: m)) : QL P ops C Q (⟨some d, .call { callee := .builtin .len, args := #[x], argTypes := #[t] }, ty, pos, aft, none⟩ :: rest) n ds m :=
 E3 rfl rfl hb (fun a w ha _ => by simp [execOp, resolve, invoke, builtin, ha.eval hx, hr w]) h
theorem Cf {f : FuncId} {args : Array Operand} {ats : Array TypeId} {vs : List Value} {v : Value}
 (hc : IN P f) (ha' : Ly m args.toList = some vs) (hb : Nat.blt d n = true) (hcall : ∀ w, C w → Calls P f vs.toArray w (fun e w'' => e = .returned v ∧ C w''))
 (h : QL P ops C Q rest n ds ((d, v) :: m)) : QL P ops C Q (⟨some d, .call { callee := .value (.func f), args := args, argTypes := ats }, ty, pos, aft, none⟩ :: rest) n ds m := by
 intro a ha
 unfold wpQuiet
 rw [if_pos (by simp [Region.wanted])]
 refine ⟨v, fun w hw => ?_, h _ (ha.put d v hb)⟩
 have h1 : args.map a.eval = vs.toArray := Array.toList_inj.mp (by simpa using ha.evals ha')
 have : (execOp a.eval ⟨some d, .call { callee := .value (.func f), args := args, argTypes := ats }, ty, pos, aft, none⟩).run P w = .ok (.enter f vs.toArray) w := by
  simp [execOp, resolve, invoke, Deferred.ofValue, Act.eval, h1, hc _ _]
 unfold Oper.quietAt
 rw [this]
 exact ⟨rfl, hcall w hw⟩
end
end Go.Sx
namespace Go.Sx
open Go.Proofs Go.Proofs.Tryz
theorem LR (a b c d e : Value) (cs : List Value) : Ch (a :: b :: c :: d :: cs) 3 [e] = a :: b :: c :: e :: cs := by simp [Ch]
section
variable {w0 : World} {S : Nat → Prop} {p most long : Nat} {s : WS} {O : Nat → Prop} {w : World}
theorem WSt.nestTo (h : WSt w0 S p most long s O w) (k : Nat) : ∃ w', (storeVar 3 ⟨p, 3, none⟩ (.int .i64 k)).run prog w = .ok () w' ∧ Fr O w O w' ∧ WSt w0 S p most long { s with nest := k } O w' := by
 obtain ⟨vb, vt, bm, m⟩ := h.mem
 have hst := BR (P := prog) (t := 3) (n := 1) (agg := false) (b := p) (o := 3) (v := .int .i64 k) (vs := [.int .i64 k]) Hm rfl rfl (by simp [Value.oneCell']) m.blk (by simp)
 rw [LR] at hst
 have f : Fr O w O (w.setRow p [vb, vt, .map (some bm), .int .i64 k, .int .i64 most, .int .i64 long].toArray) := Fr.setRow _ m.op
 have hoth : ∀ b, b ≠ p → (w.setRow p [vb, vt, .map (some bm), .int .i64 k, .int .i64 most, .int .i64 long].toArray).heap[b]? = w.heap[b]? := fun b hb => setRow_other w p b _ hb
 refine ⟨_, hst, f, fun b hb hl => ⟨(h.inp b hb hl).1, ?_⟩, fun b hb => by simp only [BB]; exact h.lt b hb, by simp only [BB]; exact h.base, ?_, h.tabs, h.nodup⟩
 · rw [hoth b (fun e => (h.inp b hb hl).1 (e ▸ m.op))]; exact (h.inp b hb hl).2
 · exact ⟨vb, vt, bm, m.blk.setRow _, AP m.rb (fun b hb => hoth b (m.ob b hb).2.1), AP m.rt (fun b hb => hoth b (m.ot b hb).2.1), m.mp.agree (hoth bm (fun e => m.pm e.symm)), m.op, m.om, m.ob, m.ot, m.pm⟩
theorem WSt.cells (h : WSt w0 S p most long s O w) : ∃ vb, w.cell? ⟨p, 0, none⟩ = some vb ∧ w.cell? ⟨p, 3, none⟩ = some (.int .i64 s.nest) ∧ w.cell? ⟨p, 4, none⟩ = some (.int .i64 most) ∧ w.cell? ⟨p, 5, none⟩ = some (.int .i64 long) ∧
 ∃ g c, vb = .slice g s.b.length c := by
 obtain ⟨vb, vt, bm, m⟩ := h.mem
 refine ⟨vb, by rw [m.blk.cell]; rfl, by rw [m.blk.cell]; rfl, by rw [m.blk.cell]; rfl, by rw [m.blk.cell]; rfl, ?_⟩
 rcases m.rb.2 with ⟨h1, h2⟩ | ⟨g, cap, cur, h1, _⟩
 · exact ⟨none, 0, by rw [h1, h2]⟩
 · exact ⟨_, _, h1⟩
end
theorem KO : By prog 183 false 1 := Qx
theorem CE : prog.follows .mixedOrders = true := by kernel_rfl
theorem Fr.drewn {O : Nat → Prop} {w : World} (k : Nat) : Fr O w O (w.drewN k) := ⟨rfl, rfl, rfl, Nat.le_refl _, fun _ _ _ => rfl, fun _ h => .inl h⟩
theorem Iz {w : World} : (Instr.build 89 #[]).run prog w = .ok (.agg #[]) w := by
 simp [Instr.build, zeroValue89, runUnderlying89, Value.cells, Instr.fill]
theorem GX {w : World} : (Instr.makeInterface 89 (.agg #[])).run prog w = .ok (.iface 89 (.agg #[])) w := by
 simp [Instr.makeInterface, runUnderlying89]
theorem LZ {w : World} : (Instr.panic (.iface 89 (.agg #[])) : Sem Value).run prog w = .halt (.panic (.iface 89 (.agg #[]))) w := rfl
theorem D7 {ops : Array Oper} {Q : Exit → Act → World → Prop} {n : Nat} {ds : List Deferred} {m : Env} {w : World} {d1 d2 : Nat} {t1 t2 t3 : TypeId} {p1 p2 p3 : String} {a1 a2 a3 : Array Edge}
 (hb1 : Nat.blt d1 n = true) (hb2 : Nat.blt d2 n = true) (h : ∀ a, Loc n ds m a → Q (.panic CL) a w) (hk : m.get d1 = none) (hk2 : m.get d2 = none) :
 WL prog ops Q [⟨some d1, .build 89 #[], t1, p1, a1, none⟩, ⟨some d2, .makeInterface 89 (.tmp d1), t2, p2, a2, none⟩, ⟨none, .panic (.tmp d2), t3, p3, a3, none⟩] n ds m w := by
 have e1 : ∀ v, Env.get ((d1, v) :: m) d1 = some v := fun v => by simp [Env.get, Nat.beq_refl]
 have e2 : ∀ u v, Env.get ((d2, u) :: (d1, v) :: m) d2 = some u := fun u v => by simp [Env.get, Nat.beq_refl]
 refine Cl V Iz hb1 (Eg (x := .tmp d1) (e1 _) GX hb2 (NR V V (x := .tmp d2) (e2 _ _) LZ (fun a ha => h a ⟨ha.size, ha.defers, ?_⟩)))
 intro i v hv
 refine ha.slot i v ?_
 have n1 : Nat.beq d2 i = false := by
  cases hb : Nat.beq d2 i with
  | false => rfl
  | true => rw [← Nat.eq_of_beq_eq_true hb, hk2] at hv; cases hv
 have n2 : Nat.beq d1 i = false := by
  cases hb : Nat.beq d1 i with
  | false => rfl
  | true => rw [← Nat.eq_of_beq_eq_true hb, hk] at hv; cases hv
 simp only [Env.get, n1, n2]
 exact hv
theorem Pm {w0 : World} {S : Nat → Prop} {p most long : Nat} {s : WS} {O : Nat → Prop} {w : World} (hw : WSt w0 S p most long s O w) (hu : s.use ≤ 2 ^ 40) :
 Calls prog 150 [ptr p].toArray w (Dq
  (fun v w' => ¬ (most < s.nest + 1 ∨ long < s.b.length) ∧ ∃ bx O', v = .func (.func 205) #[] #[ptr bx] ∧ Own O' w' bx [ptr p] 183 ∧ w.heap.size ≤ bx ∧ Fr O w O' w' ∧ WSt w0 S p most long { s with nest := s.nest + 1 } O' w')
  (fun ch w' => ch = CL ∧ (most < s.nest + 1 ∨ long < s.b.length) ∧ ∃ O', Fr O w O' w' ∧ WSt w0 S p most long { s with nest := s.nest + 1 } O' w')) := by
 have hun : s.nest ≤ 2 ^ 40 := by simp only [WS.use] at hu; omega
 refine AB 34 func150 V V V ?_
 refine Af (Aa (Cd V V (Ah V V (Ar [(1, ptr w.heap.size), (2, .nilFunc)] ⟨V, V, trivial⟩ ?_))))
 have hw1 := hw.alloc (.cells [ptr p].toArray 183)
 have ho1 := hw.own_new [ptr p] 183
 have f1 : Fr O w O (w.alloc (.cells [ptr p].toArray 183)) := Fr.alloc _ _ _
 show W _ _ _ _ _ _ (w.alloc (.cells [ptr p].toArray 183))
 generalize w.alloc (.cells [ptr p].toArray 183) = w1 at hw1 ho1 f1 ⊢
 obtain ⟨vb, hc0, hc3, hc4, hc5, g, cp, rfl⟩ := hw1.cells
 have hbx : w1.cell? ⟨w.heap.size, 0, none⟩ = some (ptr p) := by rw [ho1.blk.cell]; rfl
 obtain ⟨w2, hst, f2, hw2⟩ := hw1.nestTo (s.nest + 1)
 refine B9 (ι := Nat) (fun _ => [(1, ptr w.heap.size), (2, .nilFunc)]) (fun k w' => w' = w2.drewN k ∧ ¬ (most < s.nest + 1 ∨ long < s.b.length)) ?_ ?_
 · refine Af (Aa (Ai V (A4 KO hbx) V (As V V (Ab V (EK _ _ _) V (Ai V (A4 Hm hc3) V (Al V V (v := .int .i64 ((s.nest + 1 : Nat) : Int)) ?_ V ?_))))))
   · show Result.ok (Value.int .i64 (IntKind.i64.wrap ((s.nest : Int) + 1))) _ = _
     rw [B4 (by unfold Bu; omega)]; rfl
   refine As V V (Ab V (EK _ _ _) V (An V V hst (Ar [(1, ptr w.heap.size), (2, .nilFunc)] ⟨V, V, trivial⟩ ?_)))
   have ho2 := f2.keep ho1
   have hbx2 : w2.cell? ⟨w.heap.size, 0, none⟩ = some (ptr p) := by rw [ho2.blk.cell]; rfl
   have hcl := hw2.cells
   simp only at hcl
   obtain ⟨vb2, d0, d3, d4, d5, g2, cp2, rfl⟩ := hcl
   have LD : ∀ (t : TypeId) (o b : Nat) (v : Value), By prog t false 1 → w2.cell? ⟨b, o, none⟩ = some v → ∀ w', (∃ k, w' = w2.drewN k) → (loadVar t ⟨b, o, none⟩).run prog w' = .ok v w' := by
    rintro t o b v ht hc w' ⟨k, rfl⟩
    exact A4 ht (by simpa using hc)
   obtain ⟨b1, hb1⟩ : ∃ b1, b1 = decide (most < s.nest + 1) := ⟨_, rfl⟩
   obtain ⟨b2, hb2⟩ : ∃ b2, b2 = decide (long < s.b.length) := ⟨_, rfl⟩
   refine B9 (ι := Nat) (fun _ => [(1, ptr w.heap.size), (2, .nilFunc), (30, .bool (b1 || b2))]) (fun k w' => w' = w2.drewN k) (C_ (fun w' => ∃ k, w' = w2.drewN k) CE (by kernel_rfl) ⟨1, rfl⟩ ?_) ?_
   rotate_left
   · rintro k w' rfl
     obtain ⟨b, hb⟩ : ∃ b, b = (b1 || b2) := ⟨_, rfl⟩
     rw [← hb]
     refine AK V (fun ht => Aa (D7 V V (fun a ha => ?_) V V)) (fun hf => A_ fun a ha => ?_)
     · refine Am (Av ha ⟨rfl, ?_, O, f1.trans (f2.trans (Fr.drewn k)), hw2.other (Fr.drewn (O := fun _ => False) k) (fun _ h => h.elim)⟩)
       rw [ht] at hb
       simp only [hb1, hb2] at hb
       rcases (Bool.or_eq_true _ _ ▸ hb.symm : _ ∨ _) with h | h
       · exact .inl (of_decide_eq_true h)
       · exact .inr (of_decide_eq_true h)
     · refine Ad ⟨k, ha.weak ⟨V, V, trivial⟩, rfl, ?_⟩
       rw [hf] at hb
       simp only [hb1, hb2] at hb
       have := (Bool.or_eq_false_iff).1 hb.symm
       exact fun h => h.elim (of_decide_eq_false this.1) (of_decide_eq_false this.2)
   refine AM V (LD 183 0 _ _ KO hbx2) V (Cg V V (A5 V (fun _ => EK _ _ _) V (AM V (LD 3 3 _ _ Hm d3) V ?_)))
   refine AM V (LD 183 0 _ _ KO hbx2) V (Cg V V (A5 V (fun _ => MI _ _ _) V (AM V (LD 3 4 _ _ Hm d4) V ?_)))
   refine CW V V (v := .bool b1) (fun _ => Cu (hb1.trans (decide_eq_decide.2 (by omega)))) V (A6 V V ?_)
   cases b1 with
   | true =>
    iterate 10 refine CR (j := 9) V V V V V ?_
    exact BM V V V (Ll fun a ha w' hw' => Ad (hw'.elim fun k hk => ⟨k, ha.weak ⟨V, V, V, trivial⟩, hk⟩))
   | false =>
    refine Ak (j := 9) V V V (AM V (LD 183 0 _ _ KO hbx2) V (Ak (j := 9) V V V (Cg V V (Ak (j := 9) V V V (A5 V (fun _ => Bf _ _ _) V (Ak (j := 9) V V V (AM V (LD 22 0 _ _ CG d0) V ?_)))))))
    refine Ak (j := 9) V V V (GK V (fun _ => Ay underlying22) V ?_)
    refine Ak (j := 9) V V V (AM V (LD 183 0 _ _ KO hbx2) V (Ak (j := 9) V V V (Cg V V (Ak (j := 9) V V V (A5 V (fun _ => Mm _ _ _) V (Ak (j := 9) V V V (AM V (LD 3 5 _ _ Hm d5) V ?_)))))))
    refine Ak (j := 9) V V V (CW V V (v := .bool b2) (fun _ => Cu (hb2.trans (decide_eq_decide.2 (by omega)))) V ?_)
    exact BM V V V (Ll fun a ha w' hw' => Ad (hw'.elim fun k hk => ⟨k, ha.weak ⟨rfl, rfl, by simp [Env.get], trivial⟩, hk⟩))
 · rintro k w' ⟨rfl, hno⟩
   refine Af (Aa (AH V V V (Ah V V (Ae (AA fun a ha => Au V ha V ⟨hno, w.heap.size, O, rfl, (f2.trans (Fr.drewn k)).keep ho1, Nat.le_refl _, f1.trans (f2.trans (Fr.drewn k)), hw2.other (Fr.drewn (O := fun _ => False) k) (fun _ h => h.elim)⟩)))))
theorem Qp {w0 : World} {S : Nat → Prop} {p most long : Nat} {s : WS} {O : Nat → Prop} {w : World} {bx : Nat} {u : FrameMode} (hw : WSt w0 S p most long s O w) (ho : Own O w bx [ptr p] 183) (h1 : 1 ≤ s.nest) (h2 : s.nest ≤ 2 ^ 41) :
 CallsD prog 205 [ptr bx].toArray u w fun e u' w' => u' = u ∧ (e = .returned (.tuple #[]) ∧ Fr O w O w' ∧ WSt w0 S p most long { s with nest := s.nest - 1 } O w') := by
 refine Mb (R := fun e w' => e = .returned (.tuple #[]) ∧ Fr O w O w' ∧ WSt w0 S p most long { s with nest := s.nest - 1 } O w') 8 func205 V V V ?_
 have hbx : w.cell? ⟨bx, 0, none⟩ = some (ptr p) := by rw [ho.blk.cell]; rfl
 obtain ⟨vb, hc0, hc3, hc4, hc5, g, cp, rfl⟩ := hw.cells
 obtain ⟨w2, hst, f2, hw2⟩ := hw.nestTo (s.nest - 1)
 refine Aa (Ai V (A4 KO hbx) V (As V V (Ab V (EK _ _ _) V (Ai V (A4 Hm hc3) V (Al V V (v := .int .i64 ((s.nest - 1 : Nat) : Int)) ?_ V ?_)))))
 · show Result.ok (Value.int .i64 (IntKind.i64.wrap ((s.nest : Int) - 1))) _ = _
   rw [B4 (by unfold Bu; omega), show (s.nest : Int) - 1 = ((s.nest - 1 : Nat) : Int) by omega]
 exact As V V (Ab V (EK _ _ _) V (An V V hst (A2 fun a ha => AV V ha ⟨rfl, f2, hw2⟩)))
def Lr (bx : Nat) : Deferred := { target := .fn (.func 205) #[ptr bx], args := #[] ++ #[] }
theorem MF {fn : Func} {tmps : Array Value} {R : Value → World → Prop} {Sx : List PanicEntry → World → Prop} {w0 : World} {S : Nat → Prop} {p most long : Nat} {s : WS} {O : Nat → Prop} {w : World} {bx : Nat}
 (hres : fn.results = #[]) (hw : WSt w0 S p most long s O w) (ho : Own O w bx [ptr p] 183) (h1 : 1 ≤ s.nest) (h2 : s.nest ≤ 2 ^ 41)
 (h : ∀ w', Fr O w O w' → WSt w0 S p most long { s with nest := s.nest - 1 } O w' → R (.tuple #[]) w') : Leaves prog fn tmps (Dq R Sx) [Lr bx] .returning w := by
 refine leaves_cons (f := 205) (args := [ptr bx].toArray) (by simp) (by simp [invoke, call205]) ((Qp hw ho h1 h2).mono ?_)
 rintro e u' w' ⟨rfl, rfl, f, hw'⟩
 exact ⟨_, results_none hres _ _ _, h w' f hw'⟩
theorem M8 {fn : Func} {tmps : Array Value} {R : Value → World → Prop} {Sx : List PanicEntry → World → Prop} {w0 : World} {S : Nat → Prop} {p most long : Nat} {s : WS} {O : Nat → Prop} {w : World} {bx : Nat}
 (hw : WSt w0 S p most long s O w) (ho : Own O w bx [ptr p] 183) (h1 : 1 ≤ s.nest) (h2 : s.nest ≤ 2 ^ 41)
 (h : ∀ w', Fr O w O w' → WSt w0 S p most long { s with nest := s.nest - 1 } O w' → Sx CL w') : Leaves prog fn tmps (Dq R Sx) [Lr bx] (.panicking CL) w := by
 refine leaves_cons (f := 205) (args := [ptr bx].toArray) (by simp) (by simp [invoke, call205]) ((Qp hw ho h1 h2).mono ?_)
 rintro e u' w' ⟨rfl, rfl, f, hw'⟩
 exact h w' f hw'
end Go.Sx
namespace Go.Sx
open Go.Proofs Go.Proofs.Tryz
section
variable {P : Program} {w : World}
theorem Dv {t e : TypeId} {z v0 v1 : Value} (ht : P.underlying t = some (.slice e)) (he : By P e false 1) (hz : ∀ w, (zeroValue e).run P w = .ok z w) (hz1 : z.cells.size = 1) (h0 : v0.cells = #[v0]) (h1 : v1.cells = #[v1]) :
 (Instr.buildSlice t 2 #[(0, v0), (1, v1)]).run P w = .ok (.slice (some ⟨w.heap.size, 0, none⟩) 2 2) (w.alloc (.cells [v0, v1].toArray e)) := by
 obtain ⟨z0, hz0⟩ : ∃ z0, z.cells = #[z0] := Array.size_eq_one_iff.mp hz1
 have hr : Array.range 2 = #[0, 1] := rfl
 simp [Instr.buildSlice, run_underlying ht, he.size, hz, hz0, Instr.fill, h0, h1, newRow, hr]
theorem Iw {t e : TypeId} {z v0 v1 v2 : Value} (ht : P.underlying t = some (.slice e)) (he : By P e false 1) (hz : ∀ w, (zeroValue e).run P w = .ok z w) (hz1 : z.cells.size = 1) (h0 : v0.cells = #[v0]) (h1 : v1.cells = #[v1]) (h2 : v2.cells = #[v2]) :
 (Instr.buildSlice t 3 #[(0, v0), (1, v1), (2, v2)]).run P w = .ok (.slice (some ⟨w.heap.size, 0, none⟩) 3 3) (w.alloc (.cells [v0, v1, v2].toArray e)) := by
 obtain ⟨z0, hz0⟩ : ∃ z0, z.cells = #[z0] := Array.size_eq_one_iff.mp hz1
 have hr : Array.range 3 = #[0, 1, 2] := rfl
 simp [Instr.buildSlice, run_underlying ht, he.size, hz, hz0, Instr.fill, h0, h1, h2, newRow, hr]
theorem Im {t e : TypeId} {z v0 v1 v2 v3 : Value} (ht : P.underlying t = some (.slice e)) (he : By P e false 1) (hz : ∀ w, (zeroValue e).run P w = .ok z w) (hz1 : z.cells.size = 1) (h0 : v0.cells = #[v0]) (h1 : v1.cells = #[v1]) (h2 : v2.cells = #[v2]) (h3 : v3.cells = #[v3]) :
 (Instr.buildSlice t 4 #[(0, v0), (1, v1), (2, v2), (3, v3)]).run P w = .ok (.slice (some ⟨w.heap.size, 0, none⟩) 4 4) (w.alloc (.cells [v0, v1, v2, v3].toArray e)) := by
 obtain ⟨z0, hz0⟩ : ∃ z0, z.cells = #[z0] := Array.size_eq_one_iff.mp hz1
 have hr : Array.range 4 = #[0, 1, 2, 3] := rfl
 simp [Instr.buildSlice, run_underlying ht, he.size, hz, hz0, Instr.fill, h0, h1, h2, h3, newRow, hr]
end
theorem At.one {w : World} {b o : Nat} {v : Value} (h : At w b o [v]) : w.cell? ⟨b, o, none⟩ = some v := h 0 v rfl
theorem Own.cell1 {O : Nat → Prop} {w : World} {b : Nat} {cs : List Value} {t : TypeId} {o : Nat} {v : Value} (h : Own O w b cs t) (hc : (cs.drop o).take 1 = [v]) : w.cell? ⟨b, o, none⟩ = some v :=
 At.one (hc ▸ h.blk.at_ o 1)
theorem N1 {most long : Nat} {l : List T} {t : T} {s s1 s2 : WS} (h : BU most long l s = some s1) (h2 : enc most long t s1 = some s2) : BU most long (l ++ [t]) s = some s2 := by
 rw [Bx, h, Option.bind_some, Cm, h2]
theorem KF {most long : Nat} {l r : List T} {t : T} {s s1 : WS} (h : BU most long l s = some s1) (h2 : enc most long t s1 = none) : BU most long (l ++ t :: r) s = none := by
 rw [Bx, h, Option.bind_some, BU, h2]; rfl
theorem Bs {most long : Nat} {sn : SN} {l : List T} {s : WS} (h : sn.deep = false) : enc most long (.agg sn l) s = BU most long l s := by simp only [enc, h]
theorem Ep {most long : Nat} {sn : SN} {l r : List T} (a : List T) {s : WS} (h : sn.deep = false) : BU most long (a ++ .agg sn l :: r) s = BU most long (a ++ (l ++ r)) s := by
 rw [Bx, Bx]
 congr 1
 funext u
 rw [Bx, BU, Bs h]
theorem KP {most long : Nat} {l : List T} {ns : List Int} {s s1 : WS} (h : BU most long l s = some s1) : BU most long (l ++ ns.map T.int) s = some (s1.nums (ns.map GU)) := by
 rw [Bx, h, Option.bind_some]
 clear h
 induction ns generalizing s1 with
 | nil => rfl
 | cons n ns ih => simp only [List.map_cons, BU, enc, Option.bind_some]; exact ih
theorem JP {most long : Nat} {l : List T} {ns : List Bool} {s s1 : WS} (h : BU most long l s = some s1) : BU most long (l ++ ns.map T.bool) s = some (s1.nums (ns.map Bool.toNat)) := by
 rw [Bx, h, Option.bind_some]
 clear h
 induction ns generalizing s1 with
 | nil => rfl
 | cons n ns ih => simp only [List.map_cons, BU, enc, Option.bind_some]; exact ih
theorem Ov {most long : Nat} {sn : SN} {l : List T} {s s1 : WS} (h : sn.deep = true) (hn : ¬ (most < s.nest + 1 ∨ long < s.b.length)) (he : BU most long l { s with nest := s.nest + 1 } = some s1) :
 enc most long (.agg sn l) s = some { s1 with nest := s.nest } := by simp only [enc, h, if_neg hn, he, Option.map_some]
theorem K3 {most long : Nat} {sn : SN} {l : List T} {s : WS} (h : sn.deep = true) (he : BU most long l { s with nest := s.nest + 1 } = none) :
 enc most long (.agg sn l) s = none := by
 simp only [enc, h, he]
 split <;> rfl
theorem GG {most long : Nat} {sn : SN} {l : List T} {s : WS} (h : sn.deep = true) (hn : most < s.nest + 1 ∨ long < s.b.length) :
 enc most long (.agg sn l) s = none := by
 simp only [enc, h, if_pos hn]
theorem B5 {t : T} {l : List T} (h : t ∈ l) : t.wt ≤ BA l := by
 induction l with
 | nil => cases h
 | cons x l ih =>
  simp only [BA]
  rcases List.mem_cons.1 h with rfl | h
  · omega
  · have := ih h; omega
theorem BD {w : World} {S : Nat → Prop} {t : T} {f : Ty} {cs : List Value} (h : Rep w S t f cs) (hf : f.size = 1) : ∃ v, cs = [v] :=
 List.length_eq_one_iff.1 ((Rep.one _ _ _ h).1.trans hf)
section
variable {P : Program} {fn : Func} {n : Nat} {m : Env} {w : World} {R : Value → World → Prop} {Sx : List PanicEntry → World → Prop} {a : Act}
theorem Ed {ch : List PanicEntry} (ha : Loc n [] m a) (h : Sx ch w) : bodyPostD P fn (Dq R Sx) (.panic ch) a w := by
 show Leaves P fn a.tmps (Dq R Sx) a.defers (.panicking ch) w
 rw [ha.defers]; exact h
theorem Bb {d : Deferred} {ch : List PanicEntry} (ha : Loc n [d] m a) (h : ∀ tmps, Leaves P fn tmps (Dq R Sx) [d] (.panicking ch) w) : bodyPostD P fn (Dq R Sx) (.panic ch) a w := by
 show Leaves P fn a.tmps (Dq R Sx) a.defers (.panicking ch) w
 rw [ha.defers]; exact h _
theorem Jb {d : Deferred} (ha : Loc n [d] m a) (h : ∀ tmps, Leaves P fn tmps (Dq R Sx) [d] .returning w) : bodyPostD P fn (Dq R Sx) .normal a w := by
 show Leaves P fn a.tmps (Dq R Sx) a.defers .returning w
 rw [ha.defers]; exact h _
end
theorem CY : ∀ (a b : List T), BA (a ++ b) = BA a + BA b
 | [], b => by simp [BA]
 | x :: a, b => by simp only [List.cons_append, BA, CY a b]; omega
theorem MK (a : List T) {sn : SN} {l r : List T} : BA (a ++ (l ++ r)) ≤ BA (a ++ .agg sn l :: r) := by
 simp only [CY, BA, T.wt]; omega
theorem BX {sn : SN} {l : List T} : (T.agg sn l).wt = BA l + 1 := by simp only [T.wt]
theorem HS {l : List T} : (T.list l).wt = BA l + 1 := by simp only [T.wt]
theorem L9 {t : T} : (T.ptr t).wt = t.wt + 1 := by simp only [T.wt]
theorem D0 {t : T} {l all : List T} {sn : SN} {N i : Nat} (hN : (T.agg sn all).wt ≤ N) (hi : all[i]? = some (.list l)) (h : t ∈ l) : t.wt < N := by
 have h1 := B5 h
 have h2 := B5 (List.mem_of_getElem? hi)
 rw [HS] at h2
 rw [BX] at hN
 omega
theorem Q5 {t : T} {all : List T} {sn : SN} {N i : Nat} (hN : (T.agg sn all).wt ≤ N) (hi : all[i]? = some t) : t.wt < N := by
 have h2 := B5 (List.mem_of_getElem? hi)
 rw [BX] at hN
 omega
structure Step (w0 : World) (S : Nat → Prop) (p most long : Nat) (l r : List T) (s0 : WS) (O : Nat → Prop) (w : World) (s' : WS) (O' : Nat → Prop) (w' : World) : Prop where
 st : WSt w0 S p most long s' O' w'
 fr : Fr O w O' w'
 en : BU most long l s0 = some s'
 bud : s'.use + 11 * BA r ≤ 2 ^ 40
 ne : s'.nest = s0.nest
section
variable {w0 : World} {S : Nat → Prop} {p most long : Nat} {l r : List T} {t : T} {s0 s1 s2 : WS} {O O1 O2 : Nat → Prop} {w w1 w2 : World}
theorem Step.hd (h : Step w0 S p most long l (t :: r) s0 O w s1 O1 w1) : s1.use + 11 * t.wt ≤ 2 ^ 40 := by
 have := h.bud; simp only [BA] at this; omega
theorem Step.hdl {k : List T} (h : Step w0 S p most long l (.list k :: r) s0 O w s1 O1 w1) : s1.use + 11 * (BA k + 1) ≤ 2 ^ 40 := by
 have := h.hd; rw [HS] at this; exact this
theorem Step.hd1 (h : Step w0 S p most long l (t :: r) s0 O w s1 O1 w1) : s1.use + 11 * 1 ≤ 2 ^ 40 := by
 have := h.hd; have := t.wt_pos; omega
theorem Step.next (h : Step w0 S p most long l (t :: r) s0 O w s1 O1 w1) (hs : enc most long t s1 = some s2) (f : Fr O1 w1 O2 w2) (hw : WSt w0 S p most long s2 O2 w2) : Step w0 S p most long (l ++ [t]) r s0 O w s2 O2 w2 := by
 have hu := JD _ _ _ hs h.hd
 have hb := h.bud
 simp only [BA] at hb
 exact ⟨hw, h.fr.trans f, N1 h.en hs, by omega, hu.2.trans h.ne⟩
theorem I_ (ns : List Int) : BA (ns.map T.int) = ns.length := by
 induction ns with
 | nil => rfl
 | cons n ns ih => simp only [List.map_cons, BA, T.wt, ih, List.length_cons]; omega
theorem HF (ns : List Bool) : BA (ns.map T.bool) = ns.length := by
 induction ns with
 | nil => rfl
 | cons n ns ih => simp only [List.map_cons, BA, T.wt, ih, List.length_cons]; omega
theorem Step.hdi {ns : List Int} (h : Step w0 S p most long l (ns.map T.int ++ r) s0 O w s1 O1 w1) : s1.use + 11 * ns.length ≤ 2 ^ 40 := by
 have := h.bud; rw [CY, I_] at this; omega
theorem Step.hdb {ns : List Bool} (h : Step w0 S p most long l (ns.map T.bool ++ r) s0 O w s1 O1 w1) : s1.use + 11 * ns.length ≤ 2 ^ 40 := by
 have := h.bud; rw [CY, HF] at this; omega
theorem Step.ints {ns : List Int} (h : Step w0 S p most long l (ns.map T.int ++ r) s0 O w s1 O1 w1) (f : Fr O1 w1 O2 w2) (hw : WSt w0 S p most long (s1.nums (ns.map GU)) O2 w2) : Step w0 S p most long (l ++ ns.map T.int) r s0 O w (s1.nums (ns.map GU)) O2 w2 := by
 have he : BU most long (ns.map T.int) s1 = some (s1.nums (ns.map GU)) := by simpa using KP (l := []) (most := most) (long := long) (s := s1) (s1 := s1) (ns := ns) rfl
 have hu := Bw _ _ _ he (by rw [I_]; exact h.hdi)
 have hb := h.bud
 rw [CY, I_] at hb
 rw [I_] at hu
 exact ⟨hw, h.fr.trans f, KP h.en, by omega, hu.2.trans h.ne⟩
theorem Step.bools {ns : List Bool} (h : Step w0 S p most long l (ns.map T.bool ++ r) s0 O w s1 O1 w1) (f : Fr O1 w1 O2 w2) (hw : WSt w0 S p most long (s1.nums (ns.map Bool.toNat)) O2 w2) : Step w0 S p most long (l ++ ns.map T.bool) r s0 O w (s1.nums (ns.map Bool.toNat)) O2 w2 := by
 have he : BU most long (ns.map T.bool) s1 = some (s1.nums (ns.map Bool.toNat)) := by simpa using JP (l := []) (most := most) (long := long) (s := s1) (s1 := s1) (ns := ns) rfl
 have hu := Bw _ _ _ he (by rw [HF]; exact h.hdb)
 have hb := h.bud
 rw [CY, HF] at hb
 rw [HF] at hu
 exact ⟨hw, h.fr.trans f, JP h.en, by omega, hu.2.trans h.ne⟩
theorem Step.pan (h : Step w0 S p most long l (t :: r) s0 O w s1 O1 w1) {ch : List PanicEntry} {res : Option WS} (hp : Mp w0 S p most long O1 w1 (enc most long t s1) s1.nest ch w2)
 (he : BU most long (l ++ t :: r) s0 = none → res = none) : Mp w0 S p most long O w res s0.nest ch w2 := by
 obtain ⟨rfl, h1, s', O', f, hw, hn, hn2⟩ := hp
 refine ⟨rfl, he (KF h.en h1), s', O', h.fr.trans f, hw, ?_, hn2⟩
 have := h.ne
 omega
theorem Step.panD {fn : Func} {R : Value → World → Prop} {bx : Nat} {s : WS} (h : Step w0 S p most long l (t :: r) { s with nest := s.nest + 1 } O w s1 O1 w1) (hx : Own O1 w1 bx [ptr p] 183)
 {ch : List PanicEntry} {sn : SN} {la : List T} (hd : sn.deep = true) (hp : Mp w0 S p most long O1 w1 (enc most long t s1) s1.nest ch w2)
 (he : BU most long (l ++ t :: r) { s with nest := s.nest + 1 } = BU most long la { s with nest := s.nest + 1 }) :
 ∀ tmps, Leaves prog fn tmps (Dq R (Mp w0 S p most long O w (enc most long (.agg sn la) s) s.nest)) [Lr bx] (.panicking ch) w2 := by
 intro tmps
 obtain ⟨rfl, h1, s', O', f, hw, hn, hn2⟩ := hp
 have hne := h.ne
 simp only at hne
 refine M8 hw (f.keep hx) (by omega) hn2 (fun w' f' hw' => ⟨rfl, K3 hd (he.symm.trans (KF h.en h1)), _, _, h.fr.trans (f.trans f'), hw', ?_, ?_⟩)
 · show s.nest < s'.nest - 1; omega
 · show s'.nest - 1 ≤ _; omega
theorem Step.endD {fn : Func} {Sx : List PanicEntry → World → Prop} {bx : Nat} {s : WS} (hres : fn.results = #[]) (h : Step w0 S p most long l r { s with nest := s.nest + 1 } O w s1 O1 w1) (hx : Own O1 w1 bx [ptr p] 183)
 {sn : SN} {la : List T} (hd : sn.deep = true) (hn : ¬ (most < s.nest + 1 ∨ long < s.b.length)) (he : BU most long l { s with nest := s.nest + 1 } = BU most long la { s with nest := s.nest + 1 }) :
 ∀ tmps, Leaves prog fn tmps (Dq (PE w0 S p most long O w (enc most long (.agg sn la) s)) Sx) [Lr bx] .returning w1 := by
 intro tmps
 have hne := h.ne
 have hus := h.bud
 simp only at hne
 have h3 : s1.nest ≤ 2 ^ 40 := by
  have : s1.nest ≤ s1.use := by simp only [WS.use]; omega
  omega
 refine MF hres h.st hx (by omega) (by omega) (fun w' f' hw' => ⟨rfl, _, _, Ov hd hn (he.symm.trans h.en), h.fr.trans f', ?_⟩)
 have : s1.nest - 1 = s.nest := by omega
 rw [this] at hw'
 exact hw'
end
theorem Ms {w0 : World} {S : Nat → Prop} {p most long : Nat} {n : Int} (hn : Bu n) : L4 w0 S p most long 218 (.int .i64 n) (enc most long (.int n)) 1 := by
 have : enc most long (.int n) = fun s => some (s.num (GU n)) := by funext s; simp only [enc]
 rw [this]; exact Qw hn
theorem DW {w0 : World} {S : Nat → Prop} {p most long : Nat} {x : ByteArray} (hx : x.size ≤ maxLen) : L4 w0 S p most long 151 (.string x) (enc most long (.str x)) 1 := by
 have : enc most long (.str x) = fun s => some (s.str x) := by funext s; simp only [enc]
 rw [this]; exact Rp hx
theorem QZ {w0 : World} {S : Nat → Prop} {p most long : Nat} (t : T) : CC w0 S p most long 218 .int t := by
 intro cs hr
 obtain ⟨n, rfl, rfl, hn⟩ := hr.int_inv
 exact Ms hn
theorem PB {w0 : World} {S : Nat → Prop} {p most long : Nat} (t : T) : CC w0 S p most long 151 .str t := by
 intro cs hr
 obtain ⟨n, rfl, rfl, hn⟩ := hr.str_inv
 intro s O w hw hu
 exact DW hn s O w hw (by simp only [T.wt] at hu; omega)
theorem LB {a b : Int} (ha : Bu a) (hb : Bu b) : ∀ n ∈ [a, b], Bu n := by
 intro n hn; simp only [List.mem_cons, List.not_mem_nil, or_false] at hn; rcases hn with rfl | rfl <;> assumption
theorem Pf {a b c : Int} (ha : Bu a) (hb : Bu b) (hc : Bu c) : ∀ n ∈ [a, b, c], Bu n := by
 intro n hn; simp only [List.mem_cons, List.not_mem_nil, or_false] at hn; rcases hn with rfl | rfl | rfl <;> assumption
theorem PX {a b c d : Int} (ha : Bu a) (hb : Bu b) (hc : Bu c) (hd : Bu d) : ∀ n ∈ [a, b, c, d], Bu n := by
 intro n hn; simp only [List.mem_cons, List.not_mem_nil, or_false] at hn; rcases hn with rfl | rfl | rfl | rfl <;> assumption
end Go.Sx
namespace Go.Sx
open Go.Proofs Go.Proofs.Tryz
theorem J9 : AF prog 59 0 0 := fun w b o => by
 simp [Instr.fieldAt, runUnderlying59, Instr.sureAddr, fieldPlace, sizeOf3, Addr.add_lit]
theorem JE : AF prog 59 1 1 := fun w b o => by
 simp [Instr.fieldAt, runUnderlying59, Instr.sureAddr, fieldPlace, sizeOf9, Addr.add_lit]
theorem MR : AF prog 61 0 0 := fun w b o => by
 simp [Instr.fieldAt, runUnderlying61, Instr.sureAddr, fieldPlace, sizeOf3, Addr.add_lit]
theorem Nf : AF prog 61 1 1 := fun w b o => by
 simp [Instr.fieldAt, runUnderlying61, Instr.sureAddr, fieldPlace, sizeOf9, Addr.add_lit]
theorem J7 : AF prog 63 0 0 := fun w b o => by
 simp [Instr.fieldAt, runUnderlying63, Instr.sureAddr, fieldPlace, sizeOf3, Addr.add_lit]
theorem JH : AF prog 63 1 1 := fun w b o => by
 simp [Instr.fieldAt, runUnderlying63, Instr.sureAddr, fieldPlace, sizeOf3, Addr.add_lit]
theorem JK : AF prog 63 2 2 := fun w b o => by
 simp [Instr.fieldAt, runUnderlying63, Instr.sureAddr, fieldPlace, sizeOf61, Addr.add_lit]
theorem JA : AF prog 63 3 4 := fun w b o => by
 simp [Instr.fieldAt, runUnderlying63, Instr.sureAddr, fieldPlace, sizeOf9, Addr.add_lit]
theorem HR : AF prog 66 0 0 := fun w b o => by
 simp [Instr.fieldAt, runUnderlying66, Instr.sureAddr, fieldPlace, sizeOf3, Addr.add_lit]
theorem Ie : AF prog 66 1 1 := fun w b o => by
 simp [Instr.fieldAt, runUnderlying66, Instr.sureAddr, fieldPlace, sizeOf9, Addr.add_lit]
theorem HV : AF prog 66 2 2 := fun w b o => by
 simp [Instr.fieldAt, runUnderlying66, Instr.sureAddr, fieldPlace, sizeOf9, Addr.add_lit]
theorem HA : AF prog 66 3 3 := fun w b o => by
 simp [Instr.fieldAt, runUnderlying66, Instr.sureAddr, fieldPlace, sizeOf3, Addr.add_lit]
theorem EA : AF prog 66 4 4 := fun w b o => by
 simp [Instr.fieldAt, runUnderlying66, Instr.sureAddr, fieldPlace, sizeOf59, Addr.add_lit]
theorem HO : AF prog 66 5 6 := fun w b o => by
 simp [Instr.fieldAt, runUnderlying66, Instr.sureAddr, fieldPlace, sizeOf3, Addr.add_lit]
theorem Hw : AF prog 66 6 7 := fun w b o => by
 simp [Instr.fieldAt, runUnderlying66, Instr.sureAddr, fieldPlace, sizeOf61, Addr.add_lit]
theorem HW : AF prog 66 7 9 := fun w b o => by
 simp [Instr.fieldAt, runUnderlying66, Instr.sureAddr, fieldPlace, sizeOf63, Addr.add_lit]
theorem EB : AF prog 66 8 14 := fun w b o => by
 simp [Instr.fieldAt, runUnderlying66, Instr.sureAddr, fieldPlace, sizeOf44, Addr.add_lit]
theorem E_ : AF prog 66 9 15 := fun w b o => by
 simp [Instr.fieldAt, runUnderlying66, Instr.sureAddr, fieldPlace, sizeOf64, Addr.add_lit]
theorem Gx : AF prog 282 0 0 := fun w b o => by
 simp [Instr.fieldAt, runUnderlying282, Instr.sureAddr, fieldPlace, sizeOf9, Addr.add_lit]
theorem Fu : AF prog 282 1 1 := fun w b o => by
 simp [Instr.fieldAt, runUnderlying282, Instr.sureAddr, fieldPlace, sizeOf4, Addr.add_lit]
theorem Ga : AF prog 282 2 2 := fun w b o => by
 simp [Instr.fieldAt, runUnderlying282, Instr.sureAddr, fieldPlace, sizeOf66, Addr.add_lit]
theorem Gg : AF prog 216 0 0 := fun w b o => by
 simp [Instr.fieldAt, runUnderlying216, Instr.sureAddr, fieldPlace, sizeOf9, Addr.add_lit]
theorem Gm : AF prog 216 1 1 := fun w b o => by
 simp [Instr.fieldAt, runUnderlying216, Instr.sureAddr, fieldPlace, sizeOf63, Addr.add_lit]
theorem F8 : AF prog 216 2 6 := fun w b o => by
 simp [Instr.fieldAt, runUnderlying216, Instr.sureAddr, fieldPlace, sizeOf4, Addr.add_lit]
theorem FB : AF prog 216 3 7 := fun w b o => by
 simp [Instr.fieldAt, runUnderlying216, Instr.sureAddr, fieldPlace, sizeOf66, Addr.add_lit]
theorem Gq : AF prog 216 4 23 := fun w b o => by
 simp [Instr.fieldAt, runUnderlying216, Instr.sureAddr, fieldPlace, sizeOf56, Addr.add_lit]
theorem FT : AF prog 286 0 0 := fun w b o => by
 simp [Instr.fieldAt, runUnderlying286, Instr.sureAddr, fieldPlace, sizeOf66, Addr.add_lit]
theorem Fy : AF prog 286 1 16 := fun w b o => by
 simp [Instr.fieldAt, runUnderlying286, Instr.sureAddr, fieldPlace, sizeOf4, Addr.add_lit]
theorem Gl : AF prog 286 2 17 := fun w b o => by
 simp [Instr.fieldAt, runUnderlying286, Instr.sureAddr, fieldPlace, sizeOf4, Addr.add_lit]
theorem Gy : AF prog 286 3 18 := fun w b o => by
 simp [Instr.fieldAt, runUnderlying286, Instr.sureAddr, fieldPlace, sizeOf9, Addr.add_lit]
theorem Gk : AF prog 290 0 0 := fun w b o => by
 simp [Instr.fieldAt, runUnderlying290, Instr.sureAddr, fieldPlace, sizeOf66, Addr.add_lit]
theorem Fv : AF prog 290 1 16 := fun w b o => by
 simp [Instr.fieldAt, runUnderlying290, Instr.sureAddr, fieldPlace, sizeOf67, Addr.add_lit]
theorem DX : AF prog 294 0 0 := fun w b o => by
 simp [Instr.fieldAt, runUnderlying294, Instr.sureAddr, fieldPlace, sizeOf262, Addr.add_lit]
theorem FU : AF prog 294 1 1 := fun w b o => by
 simp [Instr.fieldAt, runUnderlying294, Instr.sureAddr, fieldPlace, sizeOf56, Addr.add_lit]
theorem Id : AF prog 72 0 0 := fun w b o => by
 simp [Instr.fieldAt, runUnderlying72, Instr.sureAddr, fieldPlace, sizeOf3, Addr.add_lit]
theorem HX : AF prog 72 1 1 := fun w b o => by
 simp [Instr.fieldAt, runUnderlying72, Instr.sureAddr, fieldPlace, sizeOf9, Addr.add_lit]
theorem Ib : AF prog 72 2 2 := fun w b o => by
 simp [Instr.fieldAt, runUnderlying72, Instr.sureAddr, fieldPlace, sizeOf9, Addr.add_lit]
theorem HZ : AF prog 72 3 3 := fun w b o => by
 simp [Instr.fieldAt, runUnderlying72, Instr.sureAddr, fieldPlace, sizeOf57, Addr.add_lit]
theorem HL : AF prog 72 4 4 := fun w b o => by
 simp [Instr.fieldAt, runUnderlying72, Instr.sureAddr, fieldPlace, sizeOf57, Addr.add_lit]
theorem HN : AF prog 72 5 5 := fun w b o => by
 simp [Instr.fieldAt, runUnderlying72, Instr.sureAddr, fieldPlace, sizeOf4, Addr.add_lit]
theorem Ic : AF prog 72 6 6 := fun w b o => by
 simp [Instr.fieldAt, runUnderlying72, Instr.sureAddr, fieldPlace, sizeOf66, Addr.add_lit]
theorem HB : AF prog 72 7 22 := fun w b o => by
 simp [Instr.fieldAt, runUnderlying72, Instr.sureAddr, fieldPlace, sizeOf66, Addr.add_lit]
theorem HM : AF prog 72 8 38 := fun w b o => by
 simp [Instr.fieldAt, runUnderlying72, Instr.sureAddr, fieldPlace, sizeOf63, Addr.add_lit]
theorem Ht : AF prog 72 9 43 := fun w b o => by
 simp [Instr.fieldAt, runUnderlying72, Instr.sureAddr, fieldPlace, sizeOf67, Addr.add_lit]
theorem Gb : AF prog 72 10 44 := fun w b o => by
 simp [Instr.fieldAt, runUnderlying72, Instr.sureAddr, fieldPlace, sizeOf68, Addr.add_lit]
theorem DB : AF prog 72 11 45 := fun w b o => by
 simp [Instr.fieldAt, runUnderlying72, Instr.sureAddr, fieldPlace, sizeOf69, Addr.add_lit]
theorem Dn : AF prog 72 12 46 := fun w b o => by
 simp [Instr.fieldAt, runUnderlying72, Instr.sureAddr, fieldPlace, sizeOf70, Addr.add_lit]
theorem FE : AF prog 72 13 47 := fun w b o => by
 simp [Instr.fieldAt, runUnderlying72, Instr.sureAddr, fieldPlace, sizeOf56, Addr.add_lit]
theorem FY : AF prog 72 14 48 := fun w b o => by
 simp [Instr.fieldAt, runUnderlying72, Instr.sureAddr, fieldPlace, sizeOf56, Addr.add_lit]
theorem Gi : AF prog 72 15 49 := fun w b o => by
 simp [Instr.fieldAt, runUnderlying72, Instr.sureAddr, fieldPlace, sizeOf3, Addr.add_lit]
theorem FM : AF prog 72 16 50 := fun w b o => by
 simp [Instr.fieldAt, runUnderlying72, Instr.sureAddr, fieldPlace, sizeOf3, Addr.add_lit]
theorem HQ : AF prog 74 0 0 := fun w b o => by
 simp [Instr.fieldAt, runUnderlying74, Instr.sureAddr, fieldPlace, sizeOf64, Addr.add_lit]
theorem HD : AF prog 74 1 1 := fun w b o => by
 simp [Instr.fieldAt, runUnderlying74, Instr.sureAddr, fieldPlace, sizeOf9, Addr.add_lit]
theorem HE : AF prog 74 2 2 := fun w b o => by
 simp [Instr.fieldAt, runUnderlying74, Instr.sureAddr, fieldPlace, sizeOf44, Addr.add_lit]
theorem Hs : AF prog 74 3 3 := fun w b o => by
 simp [Instr.fieldAt, runUnderlying74, Instr.sureAddr, fieldPlace, sizeOf4, Addr.add_lit]
theorem Hu : AF prog 74 4 4 := fun w b o => by
 simp [Instr.fieldAt, runUnderlying74, Instr.sureAddr, fieldPlace, sizeOf9, Addr.add_lit]
theorem HC : AF prog 74 5 5 := fun w b o => by
 simp [Instr.fieldAt, runUnderlying74, Instr.sureAddr, fieldPlace, sizeOf68, Addr.add_lit]
theorem Hx : AF prog 74 6 6 := fun w b o => by
 simp [Instr.fieldAt, runUnderlying74, Instr.sureAddr, fieldPlace, sizeOf56, Addr.add_lit]
theorem HU : AF prog 74 7 7 := fun w b o => by
 simp [Instr.fieldAt, runUnderlying74, Instr.sureAddr, fieldPlace, sizeOf9, Addr.add_lit]
theorem H_ : AF prog 74 8 8 := fun w b o => by
 simp [Instr.fieldAt, runUnderlying74, Instr.sureAddr, fieldPlace, sizeOf3, Addr.add_lit]
theorem HP : AF prog 74 9 9 := fun w b o => by
 simp [Instr.fieldAt, runUnderlying74, Instr.sureAddr, fieldPlace, sizeOf3, Addr.add_lit]
theorem F_ : AF prog 74 10 10 := fun w b o => by
 simp [Instr.fieldAt, runUnderlying74, Instr.sureAddr, fieldPlace, sizeOf3, Addr.add_lit]
theorem Gp : AF prog 74 11 11 := fun w b o => by
 simp [Instr.fieldAt, runUnderlying74, Instr.sureAddr, fieldPlace, sizeOf3, Addr.add_lit]
theorem FO : AF prog 140 0 0 := fun w b o => by
 simp [Instr.fieldAt, runUnderlying140, Instr.sureAddr, fieldPlace, sizeOf9, Addr.add_lit]
theorem Gf : AF prog 140 1 1 := fun w b o => by
 simp [Instr.fieldAt, runUnderlying140, Instr.sureAddr, fieldPlace, sizeOf68, Addr.add_lit]
theorem Gc : AF prog 140 2 2 := fun w b o => by
 simp [Instr.fieldAt, runUnderlying140, Instr.sureAddr, fieldPlace, sizeOf63, Addr.add_lit]
theorem FZ : AF prog 140 3 7 := fun w b o => by
 simp [Instr.fieldAt, runUnderlying140, Instr.sureAddr, fieldPlace, sizeOf66, Addr.add_lit]
theorem FS : AF prog 140 4 23 := fun w b o => by
 simp [Instr.fieldAt, runUnderlying140, Instr.sureAddr, fieldPlace, sizeOf9, Addr.add_lit]
theorem Gw : AF prog 140 5 24 := fun w b o => by
 simp [Instr.fieldAt, runUnderlying140, Instr.sureAddr, fieldPlace, sizeOf3, Addr.add_lit]
theorem FA : AF prog 140 6 25 := fun w b o => by
 simp [Instr.fieldAt, runUnderlying140, Instr.sureAddr, fieldPlace, sizeOf3, Addr.add_lit]
theorem Gu : AF prog 140 7 26 := fun w b o => by
 simp [Instr.fieldAt, runUnderlying140, Instr.sureAddr, fieldPlace, sizeOf3, Addr.add_lit]
theorem FL : AF prog 144 0 0 := fun w b o => by
 simp [Instr.fieldAt, runUnderlying144, Instr.sureAddr, fieldPlace, sizeOf9, Addr.add_lit]
theorem FH : AF prog 144 1 1 := fun w b o => by
 simp [Instr.fieldAt, runUnderlying144, Instr.sureAddr, fieldPlace, sizeOf4, Addr.add_lit]
theorem FI : AF prog 144 2 2 := fun w b o => by
 simp [Instr.fieldAt, runUnderlying144, Instr.sureAddr, fieldPlace, sizeOf63, Addr.add_lit]
theorem FF : AF prog 144 3 7 := fun w b o => by
 simp [Instr.fieldAt, runUnderlying144, Instr.sureAddr, fieldPlace, sizeOf4, Addr.add_lit]
theorem Fw : AF prog 144 4 8 := fun w b o => by
 simp [Instr.fieldAt, runUnderlying144, Instr.sureAddr, fieldPlace, sizeOf66, Addr.add_lit]
theorem FV : AF prog 144 5 24 := fun w b o => by
 simp [Instr.fieldAt, runUnderlying144, Instr.sureAddr, fieldPlace, sizeOf56, Addr.add_lit]
theorem FQ : AF prog 144 6 25 := fun w b o => by
 simp [Instr.fieldAt, runUnderlying144, Instr.sureAddr, fieldPlace, sizeOf9, Addr.add_lit]
theorem F2 : AF prog 144 7 26 := fun w b o => by
 simp [Instr.fieldAt, runUnderlying144, Instr.sureAddr, fieldPlace, sizeOf3, Addr.add_lit]
theorem Gh : AF prog 144 8 27 := fun w b o => by
 simp [Instr.fieldAt, runUnderlying144, Instr.sureAddr, fieldPlace, sizeOf3, Addr.add_lit]
theorem FW : AF prog 144 9 28 := fun w b o => by
 simp [Instr.fieldAt, runUnderlying144, Instr.sureAddr, fieldPlace, sizeOf3, Addr.add_lit]
theorem Hy : AF prog 76 0 0 := fun w b o => by
 simp [Instr.fieldAt, runUnderlying76, Instr.sureAddr, fieldPlace, sizeOf9, Addr.add_lit]
theorem Ia : AF prog 76 1 1 := fun w b o => by
 simp [Instr.fieldAt, runUnderlying76, Instr.sureAddr, fieldPlace, sizeOf64, Addr.add_lit]
theorem HK : AF prog 76 2 2 := fun w b o => by
 simp [Instr.fieldAt, runUnderlying76, Instr.sureAddr, fieldPlace, sizeOf66, Addr.add_lit]
theorem FR : AF prog 182 0 0 := fun w b o => by
 simp [Instr.fieldAt, runUnderlying182, Instr.sureAddr, fieldPlace, sizeOf64, Addr.add_lit]
theorem FJ : AF prog 182 1 1 := fun w b o => by
 simp [Instr.fieldAt, runUnderlying182, Instr.sureAddr, fieldPlace, sizeOf4, Addr.add_lit]
theorem FC : AF prog 182 2 2 := fun w b o => by
 simp [Instr.fieldAt, runUnderlying182, Instr.sureAddr, fieldPlace, sizeOf66, Addr.add_lit]
theorem Fx : AF prog 151 0 0 := fun w b o => by
 simp [Instr.fieldAt, runUnderlying151, Instr.sureAddr, fieldPlace, sizeOf9, Addr.add_lit]
theorem Gv : AF prog 151 1 1 := fun w b o => by
 simp [Instr.fieldAt, runUnderlying151, Instr.sureAddr, fieldPlace, sizeOf66, Addr.add_lit]
theorem CZ : AF prog 151 2 17 := fun w b o => by
 simp [Instr.fieldAt, runUnderlying151, Instr.sureAddr, fieldPlace, sizeOf149, Addr.add_lit]
theorem JO : AF prog 84 0 0 := fun w b o => by
 simp [Instr.fieldAt, runUnderlying84, Instr.sureAddr, fieldPlace, sizeOf9, Addr.add_lit]
theorem IQ : AF prog 84 1 1 := fun w b o => by
 simp [Instr.fieldAt, runUnderlying84, Instr.sureAddr, fieldPlace, sizeOf9, Addr.add_lit]
theorem JB : AF prog 84 2 2 := fun w b o => by
 simp [Instr.fieldAt, runUnderlying84, Instr.sureAddr, fieldPlace, sizeOf4, Addr.add_lit]
theorem J_ : AF prog 84 3 3 := fun w b o => by
 simp [Instr.fieldAt, runUnderlying84, Instr.sureAddr, fieldPlace, sizeOf4, Addr.add_lit]
theorem JF : AF prog 84 4 4 := fun w b o => by
 simp [Instr.fieldAt, runUnderlying84, Instr.sureAddr, fieldPlace, sizeOf9, Addr.add_lit]
theorem JC : AF prog 84 5 5 := fun w b o => by
 simp [Instr.fieldAt, runUnderlying84, Instr.sureAddr, fieldPlace, sizeOf3, Addr.add_lit]
theorem Fq : AF prog 157 0 0 := fun w b o => by
 simp [Instr.fieldAt, runUnderlying157, Instr.sureAddr, fieldPlace, sizeOf9, Addr.add_lit]
theorem FK : AF prog 157 1 1 := fun w b o => by
 simp [Instr.fieldAt, runUnderlying157, Instr.sureAddr, fieldPlace, sizeOf9, Addr.add_lit]
theorem Gj : AF prog 157 2 2 := fun w b o => by
 simp [Instr.fieldAt, runUnderlying157, Instr.sureAddr, fieldPlace, sizeOf4, Addr.add_lit]
theorem Gd : AF prog 157 3 3 := fun w b o => by
 simp [Instr.fieldAt, runUnderlying157, Instr.sureAddr, fieldPlace, sizeOf4, Addr.add_lit]
theorem FD : AF prog 157 4 4 := fun w b o => by
 simp [Instr.fieldAt, runUnderlying157, Instr.sureAddr, fieldPlace, sizeOf44, Addr.add_lit]
theorem I5 : AF prog 170 0 0 := fun w b o => by
 simp [Instr.fieldAt, runUnderlying170, Instr.sureAddr, fieldPlace, sizeOf3, Addr.add_lit]
theorem I1 : AF prog 170 1 1 := fun w b o => by
 simp [Instr.fieldAt, runUnderlying170, Instr.sureAddr, fieldPlace, sizeOf9, Addr.add_lit]
theorem Fz : AF prog 162 0 0 := fun w b o => by
 simp [Instr.fieldAt, runUnderlying162, Instr.sureAddr, fieldPlace, sizeOf9, Addr.add_lit]
theorem Dg : AF prog 162 1 1 := fun w b o => by
 simp [Instr.fieldAt, runUnderlying162, Instr.sureAddr, fieldPlace, sizeOf160, Addr.add_lit]
theorem G0 : AF prog 48 0 0 := fun w b o => by
 simp [Instr.fieldAt, runUnderlying48, Instr.sureAddr, fieldPlace, sizeOf9, Addr.add_lit]
theorem C3 : AF prog 48 1 1 := fun w b o => by
 simp [Instr.fieldAt, runUnderlying48, Instr.sureAddr, fieldPlace, sizeOf46, Addr.add_lit]
theorem EX : AF prog 48 2 2 := fun w b o => by
 simp [Instr.fieldAt, runUnderlying48, Instr.sureAddr, fieldPlace, sizeOf3, Addr.add_lit]
theorem Fc : AF prog 48 3 3 := fun w b o => by
 simp [Instr.fieldAt, runUnderlying48, Instr.sureAddr, fieldPlace, sizeOf3, Addr.add_lit]
theorem G_ : AF prog 36 0 0 := fun w b o => by
 simp [Instr.fieldAt, runUnderlying36, Instr.sureAddr, fieldPlace, sizeOf9, Addr.add_lit]
theorem CQ : AF prog 36 1 1 := fun w b o => by
 simp [Instr.fieldAt, runUnderlying36, Instr.sureAddr, fieldPlace, sizeOf26, Addr.add_lit]
theorem G6 : AF prog 36 2 2 := fun w b o => by
 simp [Instr.fieldAt, runUnderlying36, Instr.sureAddr, fieldPlace, sizeOf27, Addr.add_lit]
theorem GF : AF prog 36 3 3 := fun w b o => by
 simp [Instr.fieldAt, runUnderlying36, Instr.sureAddr, fieldPlace, sizeOf28, Addr.add_lit]
theorem GD : AF prog 36 4 4 := fun w b o => by
 simp [Instr.fieldAt, runUnderlying36, Instr.sureAddr, fieldPlace, sizeOf29, Addr.add_lit]
theorem DY : AF prog 36 5 5 := fun w b o => by
 simp [Instr.fieldAt, runUnderlying36, Instr.sureAddr, fieldPlace, sizeOf30, Addr.add_lit]
theorem Dm : AF prog 36 6 6 := fun w b o => by
 simp [Instr.fieldAt, runUnderlying36, Instr.sureAddr, fieldPlace, sizeOf31, Addr.add_lit]
theorem CO : AF prog 36 7 7 := fun w b o => by
 simp [Instr.fieldAt, runUnderlying36, Instr.sureAddr, fieldPlace, sizeOf32, Addr.add_lit]
theorem D8 : AF prog 36 8 8 := fun w b o => by
 simp [Instr.fieldAt, runUnderlying36, Instr.sureAddr, fieldPlace, sizeOf33, Addr.add_lit]
theorem D4 : AF prog 36 9 9 := fun w b o => by
 simp [Instr.fieldAt, runUnderlying36, Instr.sureAddr, fieldPlace, sizeOf34, Addr.add_lit]
end Go.Sx
namespace Go.Sx
open Go.Proofs Go.Proofs.Tryz
theorem K0 {w0 : World} {S : Nat → Prop} {p most long : Nat} (t : T) : CC w0 S p most long 246 (.st .test) t := by
 intro cs hr s O w hw hu
 obtain ⟨l, rfl, hlen, hF⟩ := hr.st_inv
 obtain ⟨t0, l, rfl, r0, hF⟩ := hF.cons_inv
 obtain ⟨t1, l, rfl, r1, hF⟩ := hF.cons_inv
 obtain rfl := hF.nil_inv
 simp only [Nat.reduceAdd, Ty.size] at r0 r1
 obtain ⟨n0, rfl, e0, i0⟩ := r0.int_inv
 obtain ⟨x1, rfl, e1, i1⟩ := r1.str_inv
 rw [BX] at hu
 refine AB 12 func246 V V V ?_
 refine Af (Aa (Cd V V (Ar [(0, ptr p), (3, ptr w.heap.size)] ⟨V, V, trivial⟩ ?_)))
 have hb := hw.own_new cs 61
 have hw1 := hw.alloc (.cells cs.toArray 61)
 have fb : Fr O w O (w.alloc (.cells cs.toArray 61)) := Fr.alloc _ _ _
 show W _ _ _ _ _ _ (w.alloc (.cells cs.toArray 61))
 generalize w.alloc (.cells cs.toArray 61) = w1 at hb hw1 fb ⊢
 have P0 : Step w0 S p most long [] [.int n0, .str x1] s O w s O w1 := ⟨hw1, fb, rfl, by omega, rfl⟩
 refine Af (Aa (Ac rfl rfl (Ab rfl (MR _ _ _) rfl (Ai rfl (A4 Cj (hb.cell1 e0)) rfl (Aj call218 rfl rfl (Ms i0 _ _ _ P0.st P0.hd1) ?_ (fun _ _ h => by obtain ⟨_, h, _⟩ := h; simp only [enc] at h; cases h))))))
 rintro _ w' ⟨rfl, s', O', hs, f, hw'⟩
 have P1 : Step w0 S p most long [.int n0] [.str x1] s O w s' O' w' := P0.next hs f hw'
 replace hb := f.keep hb
 refine Ar [(0, ptr p), (3, ptr w.heap.size)] ⟨V, V, trivial⟩ ?_
 refine Aa (Ac rfl rfl (Ab rfl (Nf _ _ _) rfl (Ai rfl (A4 Cc (hb.cell1 e1)) rfl (Aj call151 rfl rfl (DW i1 _ _ _ P1.st P1.hd1) ?_ (fun _ _ h => by obtain ⟨_, h, _⟩ := h; simp only [enc] at h; cases h)))))
 rintro _ w' ⟨rfl, s', O', hs, f, hw'⟩
 have P2 : Step w0 S p most long [.int n0, .str x1] [] s O w s' O' w' := P1.next hs f hw'
 replace hb := f.keep hb
 exact A2 fun a ha => AV V ha ⟨rfl, _, _, (Bs V).trans P2.en, P2.fr, P2.st⟩
theorem Oo {w0 : World} {S : Nat → Prop} {p most long : Nat} (t : T) : CC w0 S p most long 215 (.st .type) t := by
 intro cs hr s O w hw hu
 obtain ⟨l, rfl, hlen, hF⟩ := hr.st_inv
 obtain ⟨t0, l, rfl, r0, hF⟩ := hF.cons_inv
 obtain ⟨t1, l, rfl, r1, hF⟩ := hF.cons_inv
 obtain ⟨t2, l, rfl, r2, hF⟩ := hF.cons_inv
 obtain ⟨t3, l, rfl, r3, hF⟩ := hF.cons_inv
 obtain rfl := hF.nil_inv
 simp only [Nat.reduceAdd, Ty.size, SN.size] at r0 r1 r2 r3
 obtain ⟨n0, rfl, e0, i0⟩ := r0.int_inv
 obtain ⟨n1, rfl, e1, i1⟩ := r1.int_inv
 obtain ⟨x3, rfl, e3, i3⟩ := r3.str_inv
 rw [BX] at hu
 refine AB 19 func215 V V V ?_
 refine Af (Aa (Cd V V (Ar [(0, ptr p), (3, ptr w.heap.size)] ⟨V, V, trivial⟩ ?_)))
 have hb := hw.own_new cs 63
 have hw1 := hw.alloc (.cells cs.toArray 63)
 have fb : Fr O w O (w.alloc (.cells cs.toArray 63)) := Fr.alloc _ _ _
 show W _ _ _ _ _ _ (w.alloc (.cells cs.toArray 63))
 generalize w.alloc (.cells cs.toArray 63) = w1 at hb hw1 fb ⊢
 have P0 : Step w0 S p most long [] [.int n0, .int n1, t2, .str x3] s O w s O w1 := ⟨hw1, fb, rfl, by omega, rfl⟩
 refine Af (Aa (Ac V V (Ab V (J7 _ _ _) V (Ai V (A4 Cj (hb.cell1 e0)) V (Ab V (JH _ _ _) V (Ai V (A4 Cj (hb.cell1 e1)) V (A7 V (Dv underlying262 Hm zeroValue3 V V V) V ?_)))))))
 refine Aj call207 V V (LA (ns := [n0, n1]) (LB i0 i1) (P0.st.alloc _) (Step.hdi (ns := [n0, n1]) P0) (P0.st.own_new _ 3)) ?_ Be
 rintro _ w' ⟨rfl, O', f, hw'⟩
 replace f := (Fr.alloc _ _ _).trans f
 have P1 : Step w0 S p most long [.int n0, .int n1] [t2, .str x3] s O w _ O' w' := P0.ints (ns := [n0, n1]) f hw'
 replace hb := f.keep hb
 refine Ar [(0, ptr p), (3, ptr w.heap.size)] ⟨V, V, trivial⟩ ?_
 refine Af (Aa (Ac V V (Ab V (JK _ _ _) V (Ai V (Bg IL (Rep.one _ _ _ r2).1 (hb.blk.at_ 2 2)) V (Aj call246 V V (K0 _ _ r2 _ _ _ P1.st P1.hd) ?_ (fun ch w' h a ha => Am (Av ha (P1.pan h (fun e => (Bs V).trans e)))))))))
 rintro _ w' ⟨rfl, s', O', hs, f, hw'⟩
 have P2 : Step w0 S p most long [.int n0, .int n1, t2] [.str x3] s O w s' O' w' := P1.next hs f hw'
 replace hb := f.keep hb
 refine Ar [(0, ptr p), (3, ptr w.heap.size)] ⟨V, V, trivial⟩ ?_
 refine Aa (Ac rfl rfl (Ab rfl (JA _ _ _) rfl (Ai rfl (A4 Cc (hb.cell1 e3)) rfl (Aj call151 rfl rfl (DW i3 _ _ _ P2.st P2.hd1) ?_ (fun _ _ h => by obtain ⟨_, h, _⟩ := h; simp only [enc] at h; cases h)))))
 rintro _ w' ⟨rfl, s', O', hs, f, hw'⟩
 have P3 : Step w0 S p most long [.int n0, .int n1, t2, .str x3] [] s O w s' O' w' := P2.next hs f hw'
 replace hb := f.keep hb
 exact A2 fun a ha => AV V ha ⟨rfl, _, _, (Bs V).trans P3.en, P3.fr, P3.st⟩
theorem RA {w0 : World} {S : Nat → Prop} {p most long : Nat} {N : Nat} (ih : ∀ t', t'.wt < N → CC w0 S p most long 209 (.st .expr) t') (t : T) (hN : t.wt ≤ N) : CC w0 S p most long 209 (.st .expr) t := by
 intro cs hr s O w hw hu
 obtain ⟨l, rfl, hlen, hF⟩ := hr.st_inv
 obtain ⟨t0, l, rfl, r0, hF⟩ := hF.cons_inv
 obtain ⟨t1, l, rfl, r1, hF⟩ := hF.cons_inv
 obtain ⟨t2, l, rfl, r2, hF⟩ := hF.cons_inv
 obtain ⟨t3, l, rfl, r3, hF⟩ := hF.cons_inv
 obtain ⟨t4, l, rfl, r4, hF⟩ := hF.cons_inv
 obtain ⟨t5, l, rfl, r5, hF⟩ := hF.cons_inv
 obtain ⟨t6, l, rfl, r6, hF⟩ := hF.cons_inv
 obtain ⟨t7, l, rfl, r7, hF⟩ := hF.cons_inv
 obtain ⟨t8, l, rfl, r8, hF⟩ := hF.cons_inv
 obtain ⟨t9, l, rfl, r9, hF⟩ := hF.cons_inv
 obtain rfl := hF.nil_inv
 simp only [Nat.reduceAdd, Ty.size, SN.size] at r0 r1 r2 r3 r4 r5 r6 r7 r8 r9
 obtain ⟨n0, rfl, e0, i0⟩ := r0.int_inv
 obtain ⟨x1, rfl, e1, i1⟩ := r1.str_inv
 obtain ⟨x2, rfl, e2, i2⟩ := r2.str_inv
 obtain ⟨n3, rfl, e3, i3⟩ := r3.int_inv
 obtain ⟨l, rfl, hlA, hA⟩ := r4.st_inv
 obtain ⟨tA, l, rfl, rA, hA⟩ := hA.cons_inv
 obtain ⟨tB, l, rfl, rB, hA⟩ := hA.cons_inv
 obtain rfl := hA.nil_inv
 simp only [Nat.reduceAdd, Ty.size] at rA rB
 rw [K6 _ _ _ _ _ (by decide)] at rA rB
 obtain ⟨nA, rfl, eA, iA⟩ := rA.int_inv
 obtain ⟨xB, rfl, eB, iB⟩ := rB.str_inv
 obtain ⟨n5, rfl, e5, i5⟩ := r5.int_inv
 obtain ⟨v8, e8⟩ := BD r8 rfl
 rw [e8] at r8
 obtain ⟨l8, rfl, _⟩ := r8.list_inv
 obtain ⟨v9, e9⟩ := BD r9 rfl
 rw [e9] at r9
 obtain ⟨l9, rfl, _⟩ := r9.list_inv
 rw [BX] at hu
 replace hu : s.use + 11 * (BA [.int n0, .str x1, .str x2, .int n3, .int nA, .str xB, .int n5, t6, t7, .list l8, .list l9] + 1) ≤ 2 ^ 40 := Nat.le_trans (Nat.add_le_add_left (Nat.mul_le_mul_left _ (Nat.add_le_add_right (MK (sn := .atom) (l := [.int nA, .str xB]) (r := [.int n5, t6, t7, .list l8, .list l9]) [.int n0, .str x1, .str x2, .int n3]) 1)) _) hu
 refine Eu 55 func209 V V V ?_
 refine Af (Aa (Cd V V (Ar [(0, ptr p), (3, ptr w.heap.size)] ⟨V, V, trivial⟩ ?_)))
 have hb := hw.own_new cs 66
 have hw1 := hw.alloc (.cells cs.toArray 66)
 have fb : Fr O w O (w.alloc (.cells cs.toArray 66)) := Fr.alloc _ _ _
 show W _ _ _ _ _ _ (w.alloc (.cells cs.toArray 66))
 generalize w.alloc (.cells cs.toArray 66) = w1 at hb hw1 fb ⊢
 refine Af (Aa (Ac V V (Aj call150 V V (Pm hw1 (by omega)) ?_ ?_)))
 rotate_left
 · rintro ch w2 ⟨rfl, ho, O2, f2, hw2⟩ a ha
   exact Am (Ed ha ⟨rfl, GG V ho, _, O2, fb.trans f2, hw2, Nat.lt_succ_self _, by show s.nest + 1 ≤ _; simp only [WS.use] at hu; omega⟩)
 rintro _ w2 ⟨hno, bx, O2, rfl, hx, _, f2, hw2⟩
 replace hb := f2.keep hb
 refine Es V (Ar [(0, ptr p), (3, ptr w.heap.size)] ⟨V, V, trivial⟩ ?_)
 have hu0 : ({ s with nest := s.nest + 1 } : WS).use = s.use + 1 := by simp only [WS.use]; omega
 have P0 : Step w0 S p most long [] [.int n0, .str x1, .str x2, .int n3, .int nA, .str xB, .int n5, t6, t7, .list l8, .list l9] { s with nest := s.nest + 1 } O w { s with nest := s.nest + 1 } O2 w2 := ⟨hw2, fb.trans f2, rfl, by rw [hu0]; omega, rfl⟩
 refine Af (Aa (Ac rfl rfl (Ab rfl (HR _ _ _) rfl (Ai rfl (A4 Cj (hb.cell1 e0)) rfl (Aj call218 rfl rfl (Ms i0 _ _ _ P0.st P0.hd1) ?_ (fun _ _ h => by obtain ⟨_, h, _⟩ := h; simp only [enc] at h; cases h))))))
 rintro _ w' ⟨rfl, s', O', hs, f, hw'⟩
 have P1 : Step w0 S p most long [.int n0] [.str x1, .str x2, .int n3, .int nA, .str xB, .int n5, t6, t7, .list l8, .list l9] { s with nest := s.nest + 1 } O w s' O' w' := P0.next hs f hw'
 replace hb := f.keep hb
 replace hx := f.keep hx
 refine Ar [(0, ptr p), (3, ptr w.heap.size)] ⟨V, V, trivial⟩ ?_
 refine Af (Aa (Ac rfl rfl (Ab rfl (Ie _ _ _) rfl (Ai rfl (A4 Cc (hb.cell1 e1)) rfl (Aj call151 rfl rfl (DW i1 _ _ _ P1.st P1.hd1) ?_ (fun _ _ h => by obtain ⟨_, h, _⟩ := h; simp only [enc] at h; cases h))))))
 rintro _ w' ⟨rfl, s', O', hs, f, hw'⟩
 have P2 : Step w0 S p most long [.int n0, .str x1] [.str x2, .int n3, .int nA, .str xB, .int n5, t6, t7, .list l8, .list l9] { s with nest := s.nest + 1 } O w s' O' w' := P1.next hs f hw'
 replace hb := f.keep hb
 replace hx := f.keep hx
 refine Ar [(0, ptr p), (3, ptr w.heap.size)] ⟨V, V, trivial⟩ ?_
 refine Af (Aa (Ac rfl rfl (Ab rfl (HV _ _ _) rfl (Ai rfl (A4 Cc (hb.cell1 e2)) rfl (Aj call151 rfl rfl (DW i2 _ _ _ P2.st P2.hd1) ?_ (fun _ _ h => by obtain ⟨_, h, _⟩ := h; simp only [enc] at h; cases h))))))
 rintro _ w' ⟨rfl, s', O', hs, f, hw'⟩
 have P3 : Step w0 S p most long [.int n0, .str x1, .str x2] [.int n3, .int nA, .str xB, .int n5, t6, t7, .list l8, .list l9] { s with nest := s.nest + 1 } O w s' O' w' := P2.next hs f hw'
 replace hb := f.keep hb
 replace hx := f.keep hx
 refine Ar [(0, ptr p), (3, ptr w.heap.size)] ⟨V, V, trivial⟩ ?_
 refine Af (Aa (Ac V V (Ab V (HA _ _ _) V (Ai V (A4 Cj (hb.cell1 e3)) V (Ab V (EA _ _ _) V (Ab V (J9 _ _ _) V (Ai V (A4 Cj (hb.cell1 eA)) V (A7 V (Dv underlying262 Hm zeroValue3 V V V) V ?_))))))))
 refine Aj call207 V V (LA (ns := [n3, nA]) (LB i3 iA) (P3.st.alloc _) (Step.hdi (ns := [n3, nA]) P3) (P3.st.own_new _ 3)) ?_ Be
 rintro _ w' ⟨rfl, O', f, hw'⟩
 replace f := (Fr.alloc _ _ _).trans f
 have P4 : Step w0 S p most long [.int n0, .str x1, .str x2, .int n3, .int nA] [.str xB, .int n5, t6, t7, .list l8, .list l9] { s with nest := s.nest + 1 } O w _ O' w' := P3.ints (ns := [n3, nA]) f hw'
 replace hb := f.keep hb
 replace hx := f.keep hx
 refine Ar [(0, ptr p), (3, ptr w.heap.size)] ⟨V, V, trivial⟩ ?_
 refine Af (Aa (Ac rfl rfl (Ab rfl (EA _ _ _) rfl (Ab rfl (JE _ _ _) rfl (Ai rfl (A4 Cc (hb.cell1 eB)) rfl (Aj call151 rfl rfl (DW iB _ _ _ P4.st P4.hd1) ?_ (fun _ _ h => by obtain ⟨_, h, _⟩ := h; simp only [enc] at h; cases h)))))))
 rintro _ w' ⟨rfl, s', O', hs, f, hw'⟩
 have P5 : Step w0 S p most long [.int n0, .str x1, .str x2, .int n3, .int nA, .str xB] [.int n5, t6, t7, .list l8, .list l9] { s with nest := s.nest + 1 } O w s' O' w' := P4.next hs f hw'
 replace hb := f.keep hb
 replace hx := f.keep hx
 refine Ar [(0, ptr p), (3, ptr w.heap.size)] ⟨V, V, trivial⟩ ?_
 refine Af (Aa (Ac rfl rfl (Ab rfl (HO _ _ _) rfl (Ai rfl (A4 Cj (hb.cell1 e5)) rfl (Aj call218 rfl rfl (Ms i5 _ _ _ P5.st P5.hd1) ?_ (fun _ _ h => by obtain ⟨_, h, _⟩ := h; simp only [enc] at h; cases h))))))
 rintro _ w' ⟨rfl, s', O', hs, f, hw'⟩
 have P6 : Step w0 S p most long [.int n0, .str x1, .str x2, .int n3, .int nA, .str xB, .int n5] [t6, t7, .list l8, .list l9] { s with nest := s.nest + 1 } O w s' O' w' := P5.next hs f hw'
 replace hb := f.keep hb
 replace hx := f.keep hx
 refine Ar [(0, ptr p), (3, ptr w.heap.size)] ⟨V, V, trivial⟩ ?_
 refine Af (Aa (Ac V V (Ab V (Hw _ _ _) V (Ai V (Bg IL (Rep.one _ _ _ r6).1 (hb.blk.at_ 7 2)) V (Aj call246 V V (K0 _ _ r6 _ _ _ P6.st P6.hd) ?_ (fun ch w' h a ha => Am (Bb ha (P6.panD hx V h (Ep (sn := .atom) (l := [.int nA, .str xB]) (r := [.int n5, t6, t7, .list l8, .list l9]) [.int n0, .str x1, .str x2, .int n3] rfl).symm))))))))
 rintro _ w' ⟨rfl, s', O', hs, f, hw'⟩
 have P7 : Step w0 S p most long [.int n0, .str x1, .str x2, .int n3, .int nA, .str xB, .int n5, t6] [t7, .list l8, .list l9] { s with nest := s.nest + 1 } O w s' O' w' := P6.next hs f hw'
 replace hb := f.keep hb
 replace hx := f.keep hx
 refine Ar [(0, ptr p), (3, ptr w.heap.size)] ⟨V, V, trivial⟩ ?_
 refine Af (Aa (Ac V V (Ab V (HW _ _ _) V (Ai V (Bg D9 (Rep.one _ _ _ r7).1 (hb.blk.at_ 9 5)) V (Aj call215 V V (Oo _ _ r7 _ _ _ P7.st P7.hd) ?_ (fun ch w' h a ha => Am (Bb ha (P7.panD hx V h (Ep (sn := .atom) (l := [.int nA, .str xB]) (r := [.int n5, t6, t7, .list l8, .list l9]) [.int n0, .str x1, .str x2, .int n3] rfl).symm))))))))
 rintro _ w' ⟨rfl, s', O', hs, f, hw'⟩
 have P8 : Step w0 S p most long [.int n0, .str x1, .str x2, .int n3, .int nA, .str xB, .int n5, t6, t7] [.list l8, .list l9] { s with nest := s.nest + 1 } O w s' O' w' := P7.next hs f hw'
 replace hb := f.keep hb
 replace hx := f.keep hx
 refine Ar [(0, ptr p), (3, ptr w.heap.size)] ⟨V, V, trivial⟩ ?_
 refine Af (Aa (Ac V V (Ab V (EB _ _ _) V (Ai V (A4 D_ (hb.cell1 e8)) V (Ac V V (AH V V V (Aj call210 V V (O_ (fun t _ => PB t) _ r8 _ _ _ P8.st P8.hdl) ?_ (fun ch w' h a ha => Am (Bb ha (P8.panD hx V h (Ep (sn := .atom) (l := [.int nA, .str xB]) (r := [.int n5, t6, t7, .list l8, .list l9]) [.int n0, .str x1, .str x2, .int n3] rfl).symm))))))))))
 rintro _ w' ⟨rfl, s', O', hs, f, hw'⟩
 have P9 : Step w0 S p most long [.int n0, .str x1, .str x2, .int n3, .int nA, .str xB, .int n5, t6, t7, .list l8] [.list l9] { s with nest := s.nest + 1 } O w s' O' w' := P8.next hs f hw'
 replace hb := f.keep hb
 replace hx := f.keep hx
 refine Ar [(0, ptr p), (3, ptr w.heap.size)] ⟨V, V, trivial⟩ ?_
 refine Aa (Ac V V (Ab V (E_ _ _ _) V (Ai V (A4 Eh (hb.cell1 e9)) V (Ac V V (AH V V V (Aj call208 V V (OB (fun t' ht => ih t' (D0 hN (i := 9) V ht)) _ r9 _ _ _ P9.st P9.hdl) ?_ (fun ch w' h a ha => Bb ha (P9.panD hx V h (Ep (sn := .atom) (l := [.int nA, .str xB]) (r := [.int n5, t6, t7, .list l8, .list l9]) [.int n0, .str x1, .str x2, .int n3] rfl).symm))))))))
 rintro _ w' ⟨rfl, s', O', hs, f, hw'⟩
 have P10 : Step w0 S p most long [.int n0, .str x1, .str x2, .int n3, .int nA, .str xB, .int n5, t6, t7, .list l8, .list l9] [] { s with nest := s.nest + 1 } O w s' O' w' := P9.next hs f hw'
 replace hb := f.keep hb
 replace hx := f.keep hx
 exact A2 fun a ha => Jb ha (P10.endD V hx V hno (Ep (sn := .atom) (l := [.int nA, .str xB]) (r := [.int n5, t6, t7, .list l8, .list l9]) [.int n0, .str x1, .str x2, .int n3] rfl).symm)
theorem EU {w0 : World} {S : Nat → Prop} {p most long : Nat} (t : T) : CC w0 S p most long 209 (.st .expr) t := by
 have key : ∀ (N : Nat) (t : T), t.wt ≤ N → CC w0 S p most long 209 (.st .expr) t := by
  intro N
  induction N with
  | zero => intro t h; have := t.wt_pos; omega
  | succ N ih => intro t h; exact RA (N := N + 1) (fun t' h' => ih t' (by omega)) t h
 exact key _ t (Nat.le_refl _)
end Go.Sx
namespace Go.Sx
open Go.Proofs Go.Proofs.Tryz
theorem Qd {w0 : World} {S : Nat → Prop} {p most long : Nat} (t : T) : CC w0 S p most long 248 (.st .part) t := by
 intro cs hr s O w hw hu
 obtain ⟨l, rfl, hlen, hF⟩ := hr.st_inv
 obtain ⟨t0, l, rfl, r0, hF⟩ := hF.cons_inv
 obtain ⟨t1, l, rfl, r1, hF⟩ := hF.cons_inv
 obtain ⟨t2, l, rfl, r2, hF⟩ := hF.cons_inv
 obtain rfl := hF.nil_inv
 simp only [Nat.reduceAdd, Ty.size, SN.size] at r0 r1 r2
 obtain ⟨x0, rfl, e0, i0⟩ := r0.str_inv
 obtain ⟨b1, rfl, e1⟩ := r1.bool_inv
 rw [BX] at hu
 refine AB 17 func248 V V V ?_
 refine Af (Aa (Cd V V (Ar [(0, ptr p), (3, ptr w.heap.size)] ⟨V, V, trivial⟩ ?_)))
 have hb := hw.own_new cs 282
 have hw1 := hw.alloc (.cells cs.toArray 282)
 have fb : Fr O w O (w.alloc (.cells cs.toArray 282)) := Fr.alloc _ _ _
 show W _ _ _ _ _ _ (w.alloc (.cells cs.toArray 282))
 generalize w.alloc (.cells cs.toArray 282) = w1 at hb hw1 fb ⊢
 have P0 : Step w0 S p most long [] [.str x0, .bool b1, t2] s O w s O w1 := ⟨hw1, fb, rfl, by omega, rfl⟩
 refine Af (Aa (Ac rfl rfl (Ab rfl (Gx _ _ _) rfl (Ai rfl (A4 Cc (hb.cell1 e0)) rfl (Aj call151 rfl rfl (DW i0 _ _ _ P0.st P0.hd1) ?_ (fun _ _ h => by obtain ⟨_, h, _⟩ := h; simp only [enc] at h; cases h))))))
 rintro _ w' ⟨rfl, s', O', hs, f, hw'⟩
 have P1 : Step w0 S p most long [.str x0] [.bool b1, t2] s O w s' O' w' := P0.next hs f hw'
 replace hb := f.keep hb
 refine Ar [(0, ptr p), (3, ptr w.heap.size)] ⟨V, V, trivial⟩ ?_
 refine Af (Aa (Ac V V (Ab V (Fu _ _ _) V (Ai V (A4 Dp (hb.cell1 e1)) V (A7 V (CT underlying349 Ee zeroValue4 V V) V ?_)))))
 refine Aj call206 V V (Jl (ns := [b1]) (P1.st.alloc _) (Step.hdb (ns := [b1]) P1) (P1.st.own_new _ 4)) ?_ Be
 rintro _ w' ⟨rfl, O', f, hw'⟩
 replace f := (Fr.alloc _ _ _).trans f
 have P2 : Step w0 S p most long [.str x0, .bool b1] [t2] s O w _ O' w' := P1.bools (ns := [b1]) f hw'
 replace hb := f.keep hb
 refine Ar [(0, ptr p), (3, ptr w.heap.size)] ⟨V, V, trivial⟩ ?_
 refine Aa (Ac V V (Ab V (Ga _ _ _) V (Ai V (Bg BY (Rep.one _ _ _ r2).1 (hb.blk.at_ 2 16)) V (Aj call209 V V (EU _ _ r2 _ _ _ P2.st P2.hd) ?_ (fun ch w' h a ha => Av ha (P2.pan h (fun e => (Bs V).trans e)))))))
 rintro _ w' ⟨rfl, s', O', hs, f, hw'⟩
 have P3 : Step w0 S p most long [.str x0, .bool b1, t2] [] s O w s' O' w' := P2.next hs f hw'
 replace hb := f.keep hb
 exact A2 fun a ha => AV V ha ⟨rfl, _, _, (Bs V).trans P3.en, P3.fr, P3.st⟩
theorem Q0 {w0 : World} {S : Nat → Prop} {p most long : Nat} (t : T) : CC w0 S p most long 250 (.st .sort) t := by
 intro cs hr s O w hw hu
 obtain ⟨l, rfl, hlen, hF⟩ := hr.st_inv
 obtain ⟨t0, l, rfl, r0, hF⟩ := hF.cons_inv
 obtain ⟨t1, l, rfl, r1, hF⟩ := hF.cons_inv
 obtain ⟨t2, l, rfl, r2, hF⟩ := hF.cons_inv
 obtain ⟨t3, l, rfl, r3, hF⟩ := hF.cons_inv
 obtain rfl := hF.nil_inv
 simp only [Nat.reduceAdd, Ty.size, SN.size] at r0 r1 r2 r3
 obtain ⟨b1, rfl, e1⟩ := r1.bool_inv
 obtain ⟨b2, rfl, e2⟩ := r2.bool_inv
 obtain ⟨x3, rfl, e3, i3⟩ := r3.str_inv
 rw [BX] at hu
 refine AB 19 func250 V V V ?_
 refine Af (Aa (Cd V V (Ar [(0, ptr p), (3, ptr w.heap.size)] ⟨V, V, trivial⟩ ?_)))
 have hb := hw.own_new cs 286
 have hw1 := hw.alloc (.cells cs.toArray 286)
 have fb : Fr O w O (w.alloc (.cells cs.toArray 286)) := Fr.alloc _ _ _
 show W _ _ _ _ _ _ (w.alloc (.cells cs.toArray 286))
 generalize w.alloc (.cells cs.toArray 286) = w1 at hb hw1 fb ⊢
 have P0 : Step w0 S p most long [] [t0, .bool b1, .bool b2, .str x3] s O w s O w1 := ⟨hw1, fb, rfl, by omega, rfl⟩
 refine Af (Aa (Ac V V (Ab V (FT _ _ _) V (Ai V (Bg BY (Rep.one _ _ _ r0).1 (hb.blk.at_ 0 16)) V (Aj call209 V V (EU _ _ r0 _ _ _ P0.st P0.hd) ?_ (fun ch w' h a ha => Am (Av ha (P0.pan h (fun e => (Bs V).trans e)))))))))
 rintro _ w' ⟨rfl, s', O', hs, f, hw'⟩
 have P1 : Step w0 S p most long [t0] [.bool b1, .bool b2, .str x3] s O w s' O' w' := P0.next hs f hw'
 replace hb := f.keep hb
 refine Ar [(0, ptr p), (3, ptr w.heap.size)] ⟨V, V, trivial⟩ ?_
 refine Af (Aa (Ac V V (Ab V (Fy _ _ _) V (Ai V (A4 Dp (hb.cell1 e1)) V (Ab V (Gl _ _ _) V (Ai V (A4 Dp (hb.cell1 e2)) V (A7 V (Dv underlying349 Ee zeroValue4 V V V) V ?_)))))))
 refine Aj call206 V V (Jl (ns := [b1, b2]) (P1.st.alloc _) (Step.hdb (ns := [b1, b2]) P1) (P1.st.own_new _ 4)) ?_ Be
 rintro _ w' ⟨rfl, O', f, hw'⟩
 replace f := (Fr.alloc _ _ _).trans f
 have P2 : Step w0 S p most long [t0, .bool b1, .bool b2] [.str x3] s O w _ O' w' := P1.bools (ns := [b1, b2]) f hw'
 replace hb := f.keep hb
 refine Ar [(0, ptr p), (3, ptr w.heap.size)] ⟨V, V, trivial⟩ ?_
 refine Aa (Ac rfl rfl (Ab rfl (Gy _ _ _) rfl (Ai rfl (A4 Cc (hb.cell1 e3)) rfl (Aj call151 rfl rfl (DW i3 _ _ _ P2.st P2.hd1) ?_ (fun _ _ h => by obtain ⟨_, h, _⟩ := h; simp only [enc] at h; cases h)))))
 rintro _ w' ⟨rfl, s', O', hs, f, hw'⟩
 have P3 : Step w0 S p most long [t0, .bool b1, .bool b2, .str x3] [] s O w s' O' w' := P2.next hs f hw'
 replace hb := f.keep hb
 exact A2 fun a ha => AV V ha ⟨rfl, _, _, (Bs V).trans P3.en, P3.fr, P3.st⟩
theorem Rs {w0 : World} {S : Nat → Prop} {p most long : Nat} (t : T) : CC w0 S p most long 252 (.st .source) t := by
 intro cs hr s O w hw hu
 obtain ⟨l, rfl, hlen, hF⟩ := hr.st_inv
 obtain ⟨t0, l, rfl, r0, hF⟩ := hF.cons_inv
 obtain ⟨t1, l, rfl, r1, hF⟩ := hF.cons_inv
 obtain rfl := hF.nil_inv
 simp only [Nat.reduceAdd, Ty.size, SN.size] at r0 r1
 obtain ⟨v1, e1⟩ := BD r1 rfl
 rw [e1] at r1
 obtain ⟨l1, rfl, _⟩ := r1.list_inv
 rw [BX] at hu
 refine AB 14 func252 V V V ?_
 refine Af (Aa (Cd V V (Ar [(0, ptr p), (3, ptr w.heap.size)] ⟨V, V, trivial⟩ ?_)))
 have hb := hw.own_new cs 290
 have hw1 := hw.alloc (.cells cs.toArray 290)
 have fb : Fr O w O (w.alloc (.cells cs.toArray 290)) := Fr.alloc _ _ _
 show W _ _ _ _ _ _ (w.alloc (.cells cs.toArray 290))
 generalize w.alloc (.cells cs.toArray 290) = w1 at hb hw1 fb ⊢
 have P0 : Step w0 S p most long [] [t0, .list l1] s O w s O w1 := ⟨hw1, fb, rfl, by omega, rfl⟩
 refine Af (Aa (Ac V V (Ab V (Gk _ _ _) V (Ai V (Bg BY (Rep.one _ _ _ r0).1 (hb.blk.at_ 0 16)) V (Aj call209 V V (EU _ _ r0 _ _ _ P0.st P0.hd) ?_ (fun ch w' h a ha => Am (Av ha (P0.pan h (fun e => (Bs V).trans e)))))))))
 rintro _ w' ⟨rfl, s', O', hs, f, hw'⟩
 have P1 : Step w0 S p most long [t0] [.list l1] s O w s' O' w' := P0.next hs f hw'
 replace hb := f.keep hb
 refine Ar [(0, ptr p), (3, ptr w.heap.size)] ⟨V, V, trivial⟩ ?_
 refine Aa (Ac V V (Ab V (Fv _ _ _) V (Ai V (A4 J1 (hb.cell1 e1)) V (Ac V V (AH V V V (Aj call249 V V (Qc (fun t _ => Q0 t) _ r1 _ _ _ P1.st P1.hdl) ?_ (fun ch w' h a ha => Av ha (P1.pan h (fun e => (Bs V).trans e)))))))))
 rintro _ w' ⟨rfl, s', O', hs, f, hw'⟩
 have P2 : Step w0 S p most long [t0, .list l1] [] s O w s' O' w' := P1.next hs f hw'
 replace hb := f.keep hb
 exact A2 fun a ha => AV V ha ⟨rfl, _, _, (Bs V).trans P2.en, P2.fr, P2.st⟩
theorem Ql {w0 : World} {S : Nat → Prop} {p most long : Nat} {N : Nat} (ih : ∀ t', t'.wt < N → CC w0 S p most long 214 (.st .instr) t') (t : T) (hN : t.wt ≤ N) : CC w0 S p most long 212 (.st .param) t := by
 intro cs hr s O w hw hu
 obtain ⟨l, rfl, hlen, hF⟩ := hr.st_inv
 obtain ⟨t0, l, rfl, r0, hF⟩ := hF.cons_inv
 obtain ⟨t1, l, rfl, r1, hF⟩ := hF.cons_inv
 obtain ⟨t2, l, rfl, r2, hF⟩ := hF.cons_inv
 obtain ⟨t3, l, rfl, r3, hF⟩ := hF.cons_inv
 obtain ⟨t4, l, rfl, r4, hF⟩ := hF.cons_inv
 obtain rfl := hF.nil_inv
 simp only [Nat.reduceAdd, Ty.size, SN.size] at r0 r1 r2 r3 r4
 obtain ⟨x0, rfl, e0, i0⟩ := r0.str_inv
 obtain ⟨b2, rfl, e2⟩ := r2.bool_inv
 obtain ⟨v4, e4⟩ := BD r4 rfl
 rw [e4] at r4
 obtain ⟨l4, rfl, _⟩ := r4.list_inv
 rw [BX] at hu
 refine AB 27 func212 V V V ?_
 refine Af (Aa (Cd V V (Ar [(0, ptr p), (3, ptr w.heap.size)] ⟨V, V, trivial⟩ ?_)))
 have hb := hw.own_new cs 216
 have hw1 := hw.alloc (.cells cs.toArray 216)
 have fb : Fr O w O (w.alloc (.cells cs.toArray 216)) := Fr.alloc _ _ _
 show W _ _ _ _ _ _ (w.alloc (.cells cs.toArray 216))
 generalize w.alloc (.cells cs.toArray 216) = w1 at hb hw1 fb ⊢
 have P0 : Step w0 S p most long [] [.str x0, t1, .bool b2, t3, .list l4] s O w s O w1 := ⟨hw1, fb, rfl, by omega, rfl⟩
 refine Af (Aa (Ac rfl rfl (Ab rfl (Gg _ _ _) rfl (Ai rfl (A4 Cc (hb.cell1 e0)) rfl (Aj call151 rfl rfl (DW i0 _ _ _ P0.st P0.hd1) ?_ (fun _ _ h => by obtain ⟨_, h, _⟩ := h; simp only [enc] at h; cases h))))))
 rintro _ w' ⟨rfl, s', O', hs, f, hw'⟩
 have P1 : Step w0 S p most long [.str x0] [t1, .bool b2, t3, .list l4] s O w s' O' w' := P0.next hs f hw'
 replace hb := f.keep hb
 refine Ar [(0, ptr p), (3, ptr w.heap.size)] ⟨V, V, trivial⟩ ?_
 refine Af (Aa (Ac V V (Ab V (Gm _ _ _) V (Ai V (Bg D9 (Rep.one _ _ _ r1).1 (hb.blk.at_ 1 5)) V (Aj call215 V V (Oo _ _ r1 _ _ _ P1.st P1.hd) ?_ (fun ch w' h a ha => Am (Av ha (P1.pan h (fun e => (Bs V).trans e)))))))))
 rintro _ w' ⟨rfl, s', O', hs, f, hw'⟩
 have P2 : Step w0 S p most long [.str x0, t1] [.bool b2, t3, .list l4] s O w s' O' w' := P1.next hs f hw'
 replace hb := f.keep hb
 refine Ar [(0, ptr p), (3, ptr w.heap.size)] ⟨V, V, trivial⟩ ?_
 refine Af (Aa (Ac V V (Ab V (F8 _ _ _) V (Ai V (A4 Dp (hb.cell1 e2)) V (A7 V (CT underlying349 Ee zeroValue4 V V) V ?_)))))
 refine Aj call206 V V (Jl (ns := [b2]) (P2.st.alloc _) (Step.hdb (ns := [b2]) P2) (P2.st.own_new _ 4)) ?_ Be
 rintro _ w' ⟨rfl, O', f, hw'⟩
 replace f := (Fr.alloc _ _ _).trans f
 have P3 : Step w0 S p most long [.str x0, t1, .bool b2] [t3, .list l4] s O w _ O' w' := P2.bools (ns := [b2]) f hw'
 replace hb := f.keep hb
 refine Ar [(0, ptr p), (3, ptr w.heap.size)] ⟨V, V, trivial⟩ ?_
 refine Af (Aa (Ac V V (Ab V (FB _ _ _) V (Ai V (Bg BY (Rep.one _ _ _ r3).1 (hb.blk.at_ 7 16)) V (Aj call209 V V (EU _ _ r3 _ _ _ P3.st P3.hd) ?_ (fun ch w' h a ha => Am (Av ha (P3.pan h (fun e => (Bs V).trans e)))))))))
 rintro _ w' ⟨rfl, s', O', hs, f, hw'⟩
 have P4 : Step w0 S p most long [.str x0, t1, .bool b2, t3] [.list l4] s O w s' O' w' := P3.next hs f hw'
 replace hb := f.keep hb
 refine Ar [(0, ptr p), (3, ptr w.heap.size)] ⟨V, V, trivial⟩ ?_
 refine Aa (Ac V V (Ab V (Gq _ _ _) V (Ai V (A4 Dt (hb.cell1 e4)) V (Ac V V (AH V V V (Aj call213 V V (Nh (fun t' ht => ih t' (D0 hN (i := 4) V ht)) _ r4 _ _ _ P4.st P4.hdl) ?_ (fun ch w' h a ha => Av ha (P4.pan h (fun e => (Bs V).trans e)))))))))
 rintro _ w' ⟨rfl, s', O', hs, f, hw'⟩
 have P5 : Step w0 S p most long [.str x0, t1, .bool b2, t3, .list l4] [] s O w s' O' w' := P4.next hs f hw'
 replace hb := f.keep hb
 exact A2 fun a ha => AV V ha ⟨rfl, _, _, (Bs V).trans P5.en, P5.fr, P5.st⟩
theorem Ro {w0 : World} {S : Nat → Prop} {p most long : Nat} {N : Nat} (ih : ∀ t', t'.wt < N → CC w0 S p most long 214 (.st .instr) t') (t : T) (hN : t.wt ≤ N) : CC w0 S p most long 254 (.st .ctch) t := by
 intro cs hr s O w hw hu
 obtain ⟨l, rfl, hlen, hF⟩ := hr.st_inv
 obtain ⟨t0, l, rfl, r0, hF⟩ := hF.cons_inv
 obtain ⟨t1, l, rfl, r1, hF⟩ := hF.cons_inv
 obtain rfl := hF.nil_inv
 simp only [Nat.reduceAdd, Ty.size] at r0 r1
 obtain ⟨v0, e0⟩ := BD r0 rfl
 rw [e0] at r0
 obtain ⟨l0, rfl, _⟩ := r0.list_inv
 obtain ⟨v1, e1⟩ := BD r1 rfl
 rw [e1] at r1
 obtain ⟨l1, rfl, _⟩ := r1.list_inv
 rw [BX] at hu
 refine AB 16 func254 V V V ?_
 refine Af (Aa (Cd V V (Ar [(0, ptr p), (3, ptr w.heap.size)] ⟨V, V, trivial⟩ ?_)))
 have hb := hw.own_new cs 294
 have hw1 := hw.alloc (.cells cs.toArray 294)
 have fb : Fr O w O (w.alloc (.cells cs.toArray 294)) := Fr.alloc _ _ _
 show W _ _ _ _ _ _ (w.alloc (.cells cs.toArray 294))
 generalize w.alloc (.cells cs.toArray 294) = w1 at hb hw1 fb ⊢
 have P0 : Step w0 S p most long [] [.list l0, .list l1] s O w s O w1 := ⟨hw1, fb, rfl, by omega, rfl⟩
 refine Af (Aa (Ac V V (Ab V (DX _ _ _) V (Ai V (A4 Hp (hb.cell1 e0)) V (Ac V V (AH V V V (Aj call286 V V (Re (fun t _ => QZ t) _ r0 _ _ _ P0.st P0.hdl) ?_ (fun ch w' h a ha => Am (Av ha (P0.pan h (fun e => (Bs V).trans e)))))))))))
 rintro _ w' ⟨rfl, s', O', hs, f, hw'⟩
 have P1 : Step w0 S p most long [.list l0] [.list l1] s O w s' O' w' := P0.next hs f hw'
 replace hb := f.keep hb
 refine Ar [(0, ptr p), (3, ptr w.heap.size)] ⟨V, V, trivial⟩ ?_
 refine Aa (Ac V V (Ab V (FU _ _ _) V (Ai V (A4 Dt (hb.cell1 e1)) V (Ac V V (AH V V V (Aj call213 V V (Nh (fun t' ht => ih t' (D0 hN (i := 1) V ht)) _ r1 _ _ _ P1.st P1.hdl) ?_ (fun ch w' h a ha => Av ha (P1.pan h (fun e => (Bs V).trans e)))))))))
 rintro _ w' ⟨rfl, s', O', hs, f, hw'⟩
 have P2 : Step w0 S p most long [.list l0, .list l1] [] s O w s' O' w' := P1.next hs f hw'
 replace hb := f.keep hb
 exact A2 fun a ha => AV V ha ⟨rfl, _, _, (Bs V).trans P2.en, P2.fr, P2.st⟩
theorem Qe {w0 : World} {S : Nat → Prop} {p most long : Nat} {N : Nat} (ih : ∀ t', t'.wt < N → CC w0 S p most long 214 (.st .instr) t') (t : T) (hN : t.wt ≤ N) : CC w0 S p most long 214 (.st .instr) t := by
 intro cs hr s O w hw hu
 obtain ⟨l, rfl, hlen, hF⟩ := hr.st_inv
 obtain ⟨t0, l, rfl, r0, hF⟩ := hF.cons_inv
 obtain ⟨t1, l, rfl, r1, hF⟩ := hF.cons_inv
 obtain ⟨t2, l, rfl, r2, hF⟩ := hF.cons_inv
 obtain ⟨t3, l, rfl, r3, hF⟩ := hF.cons_inv
 obtain ⟨t4, l, rfl, r4, hF⟩ := hF.cons_inv
 obtain ⟨t5, l, rfl, r5, hF⟩ := hF.cons_inv
 obtain ⟨t6, l, rfl, r6, hF⟩ := hF.cons_inv
 obtain ⟨t7, l, rfl, r7, hF⟩ := hF.cons_inv
 obtain ⟨t8, l, rfl, r8, hF⟩ := hF.cons_inv
 obtain ⟨t9, l, rfl, r9, hF⟩ := hF.cons_inv
 obtain ⟨t10, l, rfl, r10, hF⟩ := hF.cons_inv
 obtain ⟨t11, l, rfl, r11, hF⟩ := hF.cons_inv
 obtain ⟨t12, l, rfl, r12, hF⟩ := hF.cons_inv
 obtain ⟨t13, l, rfl, r13, hF⟩ := hF.cons_inv
 obtain ⟨t14, l, rfl, r14, hF⟩ := hF.cons_inv
 obtain ⟨t15, l, rfl, r15, hF⟩ := hF.cons_inv
 obtain ⟨t16, l, rfl, r16, hF⟩ := hF.cons_inv
 obtain rfl := hF.nil_inv
 simp only [Nat.reduceAdd, Ty.size, SN.size] at r0 r1 r2 r3 r4 r5 r6 r7 r8 r9 r10 r11 r12 r13 r14 r15 r16
 obtain ⟨n0, rfl, e0, i0⟩ := r0.int_inv
 obtain ⟨x1, rfl, e1, i1⟩ := r1.str_inv
 obtain ⟨x2, rfl, e2, i2⟩ := r2.str_inv
 obtain ⟨v3, e3⟩ := BD r3 rfl
 rw [e3] at r3
 obtain ⟨l3, rfl, _⟩ := r3.list_inv
 obtain ⟨v4, e4⟩ := BD r4 rfl
 rw [e4] at r4
 obtain ⟨l4, rfl, _⟩ := r4.list_inv
 obtain ⟨b5, rfl, e5⟩ := r5.bool_inv
 obtain ⟨v9, e9⟩ := BD r9 rfl
 rw [e9] at r9
 obtain ⟨l9, rfl, _⟩ := r9.list_inv
 obtain ⟨v10, e10⟩ := BD r10 rfl
 rw [e10] at r10
 obtain ⟨l10, rfl, _⟩ := r10.list_inv
 obtain ⟨v11, e11⟩ := BD r11 rfl
 rw [e11] at r11
 obtain ⟨l11, rfl, _⟩ := r11.list_inv
 obtain ⟨v12, e12⟩ := BD r12 rfl
 rw [e12] at r12
 obtain ⟨l12, rfl, _⟩ := r12.list_inv
 obtain ⟨v13, e13⟩ := BD r13 rfl
 rw [e13] at r13
 obtain ⟨l13, rfl, _⟩ := r13.list_inv
 obtain ⟨v14, e14⟩ := BD r14 rfl
 rw [e14] at r14
 obtain ⟨l14, rfl, _⟩ := r14.list_inv
 obtain ⟨n15, rfl, e15, i15⟩ := r15.int_inv
 obtain ⟨n16, rfl, e16, i16⟩ := r16.int_inv
 rw [BX] at hu
 refine Eu 90 func214 V V V ?_
 refine Af (Aa (Cd V V (Ar [(0, ptr p), (3, ptr w.heap.size)] ⟨V, V, trivial⟩ ?_)))
 have hb := hw.own_new cs 72
 have hw1 := hw.alloc (.cells cs.toArray 72)
 have fb : Fr O w O (w.alloc (.cells cs.toArray 72)) := Fr.alloc _ _ _
 show W _ _ _ _ _ _ (w.alloc (.cells cs.toArray 72))
 generalize w.alloc (.cells cs.toArray 72) = w1 at hb hw1 fb ⊢
 refine Af (Aa (Ac V V (Aj call150 V V (Pm hw1 (by omega)) ?_ ?_)))
 rotate_left
 · rintro ch w2 ⟨rfl, ho, O2, f2, hw2⟩ a ha
   exact Am (Ed ha ⟨rfl, GG V ho, _, O2, fb.trans f2, hw2, Nat.lt_succ_self _, by show s.nest + 1 ≤ _; simp only [WS.use] at hu; omega⟩)
 rintro _ w2 ⟨hno, bx, O2, rfl, hx, _, f2, hw2⟩
 replace hb := f2.keep hb
 refine Es V (Ar [(0, ptr p), (3, ptr w.heap.size)] ⟨V, V, trivial⟩ ?_)
 have hu0 : ({ s with nest := s.nest + 1 } : WS).use = s.use + 1 := by simp only [WS.use]; omega
 have P0 : Step w0 S p most long [] [.int n0, .str x1, .str x2, .list l3, .list l4, .bool b5, t6, t7, t8, .list l9, .list l10, .list l11, .list l12, .list l13, .list l14, .int n15, .int n16] { s with nest := s.nest + 1 } O w { s with nest := s.nest + 1 } O2 w2 := ⟨hw2, fb.trans f2, rfl, by rw [hu0]; omega, rfl⟩
 refine Af (Aa (Ac rfl rfl (Ab rfl (Id _ _ _) rfl (Ai rfl (A4 Cj (hb.cell1 e0)) rfl (Aj call218 rfl rfl (Ms i0 _ _ _ P0.st P0.hd1) ?_ (fun _ _ h => by obtain ⟨_, h, _⟩ := h; simp only [enc] at h; cases h))))))
 rintro _ w' ⟨rfl, s', O', hs, f, hw'⟩
 have P1 : Step w0 S p most long [.int n0] [.str x1, .str x2, .list l3, .list l4, .bool b5, t6, t7, t8, .list l9, .list l10, .list l11, .list l12, .list l13, .list l14, .int n15, .int n16] { s with nest := s.nest + 1 } O w s' O' w' := P0.next hs f hw'
 replace hb := f.keep hb
 replace hx := f.keep hx
 refine Ar [(0, ptr p), (3, ptr w.heap.size)] ⟨V, V, trivial⟩ ?_
 refine Af (Aa (Ac rfl rfl (Ab rfl (HX _ _ _) rfl (Ai rfl (A4 Cc (hb.cell1 e1)) rfl (Aj call151 rfl rfl (DW i1 _ _ _ P1.st P1.hd1) ?_ (fun _ _ h => by obtain ⟨_, h, _⟩ := h; simp only [enc] at h; cases h))))))
 rintro _ w' ⟨rfl, s', O', hs, f, hw'⟩
 have P2 : Step w0 S p most long [.int n0, .str x1] [.str x2, .list l3, .list l4, .bool b5, t6, t7, t8, .list l9, .list l10, .list l11, .list l12, .list l13, .list l14, .int n15, .int n16] { s with nest := s.nest + 1 } O w s' O' w' := P1.next hs f hw'
 replace hb := f.keep hb
 replace hx := f.keep hx
 refine Ar [(0, ptr p), (3, ptr w.heap.size)] ⟨V, V, trivial⟩ ?_
 refine Af (Aa (Ac rfl rfl (Ab rfl (Ib _ _ _) rfl (Ai rfl (A4 Cc (hb.cell1 e2)) rfl (Aj call151 rfl rfl (DW i2 _ _ _ P2.st P2.hd1) ?_ (fun _ _ h => by obtain ⟨_, h, _⟩ := h; simp only [enc] at h; cases h))))))
 rintro _ w' ⟨rfl, s', O', hs, f, hw'⟩
 have P3 : Step w0 S p most long [.int n0, .str x1, .str x2] [.list l3, .list l4, .bool b5, t6, t7, t8, .list l9, .list l10, .list l11, .list l12, .list l13, .list l14, .int n15, .int n16] { s with nest := s.nest + 1 } O w s' O' w' := P2.next hs f hw'
 replace hb := f.keep hb
 replace hx := f.keep hx
 refine Ar [(0, ptr p), (3, ptr w.heap.size)] ⟨V, V, trivial⟩ ?_
 refine Af (Aa (Ac V V (Ab V (HZ _ _ _) V (Ai V (A4 J2 (hb.cell1 e3)) V (Ac V V (AH V V V (Aj call247 V V (Qo (fun t _ => Qd t) _ r3 _ _ _ P3.st P3.hdl) ?_ (fun ch w' h a ha => Am (Bb ha (P3.panD hx V h V))))))))))
 rintro _ w' ⟨rfl, s', O', hs, f, hw'⟩
 have P4 : Step w0 S p most long [.int n0, .str x1, .str x2, .list l3] [.list l4, .bool b5, t6, t7, t8, .list l9, .list l10, .list l11, .list l12, .list l13, .list l14, .int n15, .int n16] { s with nest := s.nest + 1 } O w s' O' w' := P3.next hs f hw'
 replace hb := f.keep hb
 replace hx := f.keep hx
 refine Ar [(0, ptr p), (3, ptr w.heap.size)] ⟨V, V, trivial⟩ ?_
 refine Af (Aa (Ac V V (Ab V (HL _ _ _) V (Ai V (A4 J2 (hb.cell1 e4)) V (Ac V V (AH V V V (Aj call247 V V (Qo (fun t _ => Qd t) _ r4 _ _ _ P4.st P4.hdl) ?_ (fun ch w' h a ha => Am (Bb ha (P4.panD hx V h V))))))))))
 rintro _ w' ⟨rfl, s', O', hs, f, hw'⟩
 have P5 : Step w0 S p most long [.int n0, .str x1, .str x2, .list l3, .list l4] [.bool b5, t6, t7, t8, .list l9, .list l10, .list l11, .list l12, .list l13, .list l14, .int n15, .int n16] { s with nest := s.nest + 1 } O w s' O' w' := P4.next hs f hw'
 replace hb := f.keep hb
 replace hx := f.keep hx
 refine Ar [(0, ptr p), (3, ptr w.heap.size)] ⟨V, V, trivial⟩ ?_
 refine Af (Aa (Ac V V (Ab V (HN _ _ _) V (Ai V (A4 Dp (hb.cell1 e5)) V (A7 V (CT underlying349 Ee zeroValue4 V V) V ?_)))))
 refine Aj call206 V V (Jl (ns := [b5]) (P5.st.alloc _) (Step.hdb (ns := [b5]) P5) (P5.st.own_new _ 4)) ?_ Be
 rintro _ w' ⟨rfl, O', f, hw'⟩
 replace f := (Fr.alloc _ _ _).trans f
 have P6 : Step w0 S p most long [.int n0, .str x1, .str x2, .list l3, .list l4, .bool b5] [t6, t7, t8, .list l9, .list l10, .list l11, .list l12, .list l13, .list l14, .int n15, .int n16] { s with nest := s.nest + 1 } O w _ O' w' := P5.bools (ns := [b5]) f hw'
 replace hb := f.keep hb
 replace hx := f.keep hx
 refine Ar [(0, ptr p), (3, ptr w.heap.size)] ⟨V, V, trivial⟩ ?_
 refine Af (Aa (Ac V V (Ab V (Ic _ _ _) V (Ai V (Bg BY (Rep.one _ _ _ r6).1 (hb.blk.at_ 6 16)) V (Aj call209 V V (EU _ _ r6 _ _ _ P6.st P6.hd) ?_ (fun ch w' h a ha => Am (Bb ha (P6.panD hx V h V))))))))
 rintro _ w' ⟨rfl, s', O', hs, f, hw'⟩
 have P7 : Step w0 S p most long [.int n0, .str x1, .str x2, .list l3, .list l4, .bool b5, t6] [t7, t8, .list l9, .list l10, .list l11, .list l12, .list l13, .list l14, .int n15, .int n16] { s with nest := s.nest + 1 } O w s' O' w' := P6.next hs f hw'
 replace hb := f.keep hb
 replace hx := f.keep hx
 refine Ar [(0, ptr p), (3, ptr w.heap.size)] ⟨V, V, trivial⟩ ?_
 refine Af (Aa (Ac V V (Ab V (HB _ _ _) V (Ai V (Bg BY (Rep.one _ _ _ r7).1 (hb.blk.at_ 22 16)) V (Aj call209 V V (EU _ _ r7 _ _ _ P7.st P7.hd) ?_ (fun ch w' h a ha => Am (Bb ha (P7.panD hx V h V))))))))
 rintro _ w' ⟨rfl, s', O', hs, f, hw'⟩
 have P8 : Step w0 S p most long [.int n0, .str x1, .str x2, .list l3, .list l4, .bool b5, t6, t7] [t8, .list l9, .list l10, .list l11, .list l12, .list l13, .list l14, .int n15, .int n16] { s with nest := s.nest + 1 } O w s' O' w' := P7.next hs f hw'
 replace hb := f.keep hb
 replace hx := f.keep hx
 refine Ar [(0, ptr p), (3, ptr w.heap.size)] ⟨V, V, trivial⟩ ?_
 refine Af (Aa (Ac V V (Ab V (HM _ _ _) V (Ai V (Bg D9 (Rep.one _ _ _ r8).1 (hb.blk.at_ 38 5)) V (Aj call215 V V (Oo _ _ r8 _ _ _ P8.st P8.hd) ?_ (fun ch w' h a ha => Am (Bb ha (P8.panD hx V h V))))))))
 rintro _ w' ⟨rfl, s', O', hs, f, hw'⟩
 have P9 : Step w0 S p most long [.int n0, .str x1, .str x2, .list l3, .list l4, .bool b5, t6, t7, t8] [.list l9, .list l10, .list l11, .list l12, .list l13, .list l14, .int n15, .int n16] { s with nest := s.nest + 1 } O w s' O' w' := P8.next hs f hw'
 replace hb := f.keep hb
 replace hx := f.keep hx
 refine Ar [(0, ptr p), (3, ptr w.heap.size)] ⟨V, V, trivial⟩ ?_
 refine Af (Aa (Ac V V (Ab V (Ht _ _ _) V (Ai V (A4 J1 (hb.cell1 e9)) V (Ac V V (AH V V V (Aj call249 V V (Qc (fun t _ => Q0 t) _ r9 _ _ _ P9.st P9.hdl) ?_ (fun ch w' h a ha => Am (Bb ha (P9.panD hx V h V))))))))))
 rintro _ w' ⟨rfl, s', O', hs, f, hw'⟩
 have P10 : Step w0 S p most long [.int n0, .str x1, .str x2, .list l3, .list l4, .bool b5, t6, t7, t8, .list l9] [.list l10, .list l11, .list l12, .list l13, .list l14, .int n15, .int n16] { s with nest := s.nest + 1 } O w s' O' w' := P9.next hs f hw'
 replace hb := f.keep hb
 replace hx := f.keep hx
 refine Ar [(0, ptr p), (3, ptr w.heap.size)] ⟨V, V, trivial⟩ ?_
 refine Af (Aa (Ac V V (Ab V (Gb _ _ _) V (Ai V (A4 GT (hb.cell1 e10)) V (Ac V V (AH V V V (Aj call211 V V (Pt (fun t' ht => Ql ih t' (Nat.le_of_lt (D0 hN (i := 10) V ht))) _ r10 _ _ _ P10.st P10.hdl) ?_ (fun ch w' h a ha => Am (Bb ha (P10.panD hx V h V))))))))))
 rintro _ w' ⟨rfl, s', O', hs, f, hw'⟩
 have P11 : Step w0 S p most long [.int n0, .str x1, .str x2, .list l3, .list l4, .bool b5, t6, t7, t8, .list l9, .list l10] [.list l11, .list l12, .list l13, .list l14, .int n15, .int n16] { s with nest := s.nest + 1 } O w s' O' w' := P10.next hs f hw'
 replace hb := f.keep hb
 replace hx := f.keep hx
 refine Ar [(0, ptr p), (3, ptr w.heap.size)] ⟨V, V, trivial⟩ ?_
 refine Af (Aa (Ac V V (Ab V (DB _ _ _) V (Ai V (A4 Ky (hb.cell1 e11)) V (Ac V V (AH V V V (Aj call251 V V (Qi (fun t _ => Rs t) _ r11 _ _ _ P11.st P11.hdl) ?_ (fun ch w' h a ha => Am (Bb ha (P11.panD hx V h V))))))))))
 rintro _ w' ⟨rfl, s', O', hs, f, hw'⟩
 have P12 : Step w0 S p most long [.int n0, .str x1, .str x2, .list l3, .list l4, .bool b5, t6, t7, t8, .list l9, .list l10, .list l11] [.list l12, .list l13, .list l14, .int n15, .int n16] { s with nest := s.nest + 1 } O w s' O' w' := P11.next hs f hw'
 replace hb := f.keep hb
 replace hx := f.keep hx
 refine Ar [(0, ptr p), (3, ptr w.heap.size)] ⟨V, V, trivial⟩ ?_
 refine Af (Aa (Ac V V (Ab V (Dn _ _ _) V (Ai V (A4 J3 (hb.cell1 e12)) V (Ac V V (AH V V V (Aj call253 V V (QQ (fun t' ht => Ro ih t' (Nat.le_of_lt (D0 hN (i := 12) V ht))) _ r12 _ _ _ P12.st P12.hdl) ?_ (fun ch w' h a ha => Am (Bb ha (P12.panD hx V h V))))))))))
 rintro _ w' ⟨rfl, s', O', hs, f, hw'⟩
 have P13 : Step w0 S p most long [.int n0, .str x1, .str x2, .list l3, .list l4, .bool b5, t6, t7, t8, .list l9, .list l10, .list l11, .list l12] [.list l13, .list l14, .int n15, .int n16] { s with nest := s.nest + 1 } O w s' O' w' := P12.next hs f hw'
 replace hb := f.keep hb
 replace hx := f.keep hx
 refine Ar [(0, ptr p), (3, ptr w.heap.size)] ⟨V, V, trivial⟩ ?_
 refine Af (Aa (Ac V V (Ab V (FE _ _ _) V (Ai V (A4 Dt (hb.cell1 e13)) V (Ac V V (AH V V V (Aj call213 V V (Nh (fun t' ht => ih t' (D0 hN (i := 13) V ht)) _ r13 _ _ _ P13.st P13.hdl) ?_ (fun ch w' h a ha => Am (Bb ha (P13.panD hx V h V))))))))))
 rintro _ w' ⟨rfl, s', O', hs, f, hw'⟩
 have P14 : Step w0 S p most long [.int n0, .str x1, .str x2, .list l3, .list l4, .bool b5, t6, t7, t8, .list l9, .list l10, .list l11, .list l12, .list l13] [.list l14, .int n15, .int n16] { s with nest := s.nest + 1 } O w s' O' w' := P13.next hs f hw'
 replace hb := f.keep hb
 replace hx := f.keep hx
 refine Ar [(0, ptr p), (3, ptr w.heap.size)] ⟨V, V, trivial⟩ ?_
 refine Af (Aa (Ac V V (Ab V (FY _ _ _) V (Ai V (A4 Dt (hb.cell1 e14)) V (Ac V V (AH V V V (Aj call213 V V (Nh (fun t' ht => ih t' (D0 hN (i := 14) V ht)) _ r14 _ _ _ P14.st P14.hdl) ?_ (fun ch w' h a ha => Am (Bb ha (P14.panD hx V h V))))))))))
 rintro _ w' ⟨rfl, s', O', hs, f, hw'⟩
 have P15 : Step w0 S p most long [.int n0, .str x1, .str x2, .list l3, .list l4, .bool b5, t6, t7, t8, .list l9, .list l10, .list l11, .list l12, .list l13, .list l14] [.int n15, .int n16] { s with nest := s.nest + 1 } O w s' O' w' := P14.next hs f hw'
 replace hb := f.keep hb
 replace hx := f.keep hx
 refine Ar [(0, ptr p), (3, ptr w.heap.size)] ⟨V, V, trivial⟩ ?_
 refine Aa (Ac V V (Ab V (Gi _ _ _) V (Ai V (A4 Cj (hb.cell1 e15)) V (Ab V (FM _ _ _) V (Ai V (A4 Cj (hb.cell1 e16)) V (A7 V (Dv underlying262 Hm zeroValue3 V V V) V ?_))))))
 refine Aj call207 V V (LA (ns := [n15, n16]) (LB i15 i16) (P15.st.alloc _) (Step.hdi (ns := [n15, n16]) P15) (P15.st.own_new _ 3)) ?_ Be
 rintro _ w' ⟨rfl, O', f, hw'⟩
 replace f := (Fr.alloc _ _ _).trans f
 have P16 : Step w0 S p most long [.int n0, .str x1, .str x2, .list l3, .list l4, .bool b5, t6, t7, t8, .list l9, .list l10, .list l11, .list l12, .list l13, .list l14, .int n15, .int n16] [] { s with nest := s.nest + 1 } O w _ O' w' := P15.ints (ns := [n15, n16]) f hw'
 replace hb := f.keep hb
 replace hx := f.keep hx
 exact A2 fun a ha => Jb ha (P16.endD V hx V hno V)
theorem Mz {w0 : World} {S : Nat → Prop} {p most long : Nat} (t : T) : CC w0 S p most long 214 (.st .instr) t := by
 have key : ∀ (N : Nat) (t : T), t.wt ≤ N → CC w0 S p most long 214 (.st .instr) t := by
  intro N
  induction N with
  | zero => intro t h; have := t.wt_pos; omega
  | succ N ih => intro t h; exact Qe (N := N + 1) (fun t' h' => ih t' (by omega)) t h
 exact key _ t (Nat.le_refl _)
theorem Oh {w0 : World} {S : Nat → Prop} {p most long : Nat} (t : T) : CC w0 S p most long 212 (.st .param) t := Ql (N := t.wt) (fun t' _ => Mz t') t (Nat.le_refl _)
end Go.Sx
