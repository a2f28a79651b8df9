import Derived.Tactics2
import Derived.Recover
import Derived.Laws.AppendOwn
import Derived.Maps.Own
import Derived.Deep.AppendSrc
import Derived.Test.YtdldhfocpandoaaGreatProg
import Derived.KernelRfl
set_option maxHeartbeats 8000000
set_option maxRecDepth 8000
namespace Go.Sx
theorem V {α : Sort _} {a : α} : a = a := rfl
abbrev Env := List (Nat × Value)
def Env.get : Env → Nat → Option Value
 | [], _ => none
 | (i, v) :: m, j => match Nat.beq i j with
  | true => some v
  | false => Env.get m j
def ev (m : Env) : Operand → Option Value
 | .tmp t => m.get t
 | .const v => some v
 | .global g => some (.pointer (some ⟨g, 0, none⟩))
 | .func f => some (.func (.func f) #[] #[])
def Ly (m : Env) : List Operand → Option (List Value)
 | [] => some []
 | x :: xs => match ev m x, Ly m xs with
  | some v, some vs => some (v :: vs)
  | _, _ => none
structure Loc (n : Nat) (ds : List Deferred) (m : Env) (a : Act) : Prop where
 size : a.tmps.size = n
 defers : a.defers = ds
 slot : ∀ i v, m.get i = some v → a.tmps[i]? = some v
section
variable {n : Nat} {ds : List Deferred} {m : Env} {a : Act}
theorem Loc.eval (h : Loc n ds m a) {x : Operand} {v : Value} (hx : ev m x = some v) : a.eval x = v := by
 cases x with
 | tmp t =>
  have := h.slot t v hx
  simp [Act.eval, Array.getD_eq_getD_getElem?, this]
 | const c => simpa [ev, Act.eval] using hx
 | global g => simpa [ev, Act.eval] using hx
 | func f => simpa [ev, Act.eval] using hx
theorem Loc.evals (h : Loc n ds m a) : ∀ {xs : List Operand} {vs : List Value}, Ly m xs = some vs → xs.map a.eval = vs
 | [], vs, hx => by simp [Ly] at hx; simp [hx]
 | x :: xs, vs, hx => by
  simp only [Ly] at hx
  split at hx
  · rename_i v vs' h1 h2
    cases hx
    simp [h.eval h1, h.evals h2]
  · cases hx
theorem Loc.put (h : Loc n ds m a) (d : Nat) (v : Value) (hd : Nat.blt d n = true) : Loc n ds ((d, v) :: m) (a.put (some d) v) := by
 have hd' : d < n := by simpa [Nat.blt_eq] using hd
 refine ⟨by simpa [Act.put] using h.size, by simpa [Act.put] using h.defers, ?_⟩
 intro i u hu
 simp only [Env.get] at hu
 simp only [Act.put, Array.getElem?_setIfInBounds]
 by_cases hi : d = i
 · subst hi
   rw [Nat.beq_refl] at hu
   cases hu
   simp [h.size, hd']
 · have hb : Nat.beq d i = false := by
    cases hb : Nat.beq d i with
    | false => rfl
    | true => exact absurd (Nat.eq_of_beq_eq_true hb) hi
   rw [hb] at hu
   simp [hi, h.slot i u hu]
def Sub : Env → Env → Prop
 | [], _ => True
 | p :: r, m => m.get p.1 = some p.2 ∧ Sub r m
theorem Sub.get : ∀ {l m : Env}, Sub l m → ∀ i v, l.get i = some v → m.get i = some v
 | [], _, _, i, v, h => by simp [Env.get] at h
 | (j, u) :: l, m, hs, i, v, h => by
  simp only [Env.get] at h
  cases hb : Nat.beq j i with
  | true =>
   rw [hb] at h
   cases h
   exact (Nat.eq_of_beq_eq_true hb) ▸ hs.1
  | false =>
   rw [hb] at h
   exact Sub.get hs.2 i v h
theorem Loc.weak {l : Env} (h : Loc n ds m a) (hs : Sub l m) : Loc n ds l a := ⟨h.size, h.defers, fun i v hv => h.slot i v (hs.get i v hv)⟩
theorem Loc.defer (h : Loc n ds m a) (d : Deferred) : Loc n (d :: ds) m { a with defers := d :: a.defers } :=
 ⟨h.size, by simp [h.defers], h.slot⟩
end
def W (P : Program) (c : Code) (Q : Exit → Act → World → Prop) (n : Nat) (ds : List Deferred) (m : Env) (w : World) : Prop :=
 ∀ a, Loc n ds m a → c.wp P Q a w
def WL (P : Program) (ops : Array Oper) (Q : Exit → Act → World → Prop) (l : List Oper) (n : Nat) (ds : List Deferred) (m : Env) (w : World) : Prop :=
 ∀ a, Loc n ds m a → wpList P ops Q l a w
section
variable {P : Program} {ops : Array Oper} {Q : Exit → Act → World → Prop} {rest : List Oper} {n : Nat} {ds : List Deferred} {m : Env} {w : World}
theorem A8 {c : Code} {a : Act} (ha : Loc n ds m a) (h : W P c Q n ds m w) : c.wp P Q a w := h a ha
theorem Dc {c : Code} (l : Env) (hs : Sub l m) (h : W P c Q n ds l w) : W P c Q n ds m w := fun a ha => h a (ha.weak hs)
theorem Af {x y : Code} (h : W P x (Exit.then (y.wp P Q) Q) n ds m w) : W P (.seq x y) Q n ds m w := fun a ha => wp_seq (h a ha)
theorem B9 {ι : Type} {x y : Code} (E : ι → Env) (I : ι → World → Prop) (h1 : W P x (Exit.then (fun a' w' => ∃ j, Loc n ds (E j) a' ∧ I j w') Q) n ds m w)
 (h2 : ∀ j w', I j w' → W P y Q n ds (E j) w') : W P (.seq x y) Q n ds m w := by
 intro a ha
 refine wp_seq (Go.wp_mono (h1 a ha) ?_)
 intro e a' w' h
 cases e with
 | normal => obtain ⟨j, hl, hi⟩ := h; exact h2 j w' hi a' hl
 | _ => exact h
theorem Aa {id : Nat} {l : List Oper} (h : WL P l.toArray Q l n ds m w) : W P (.region id l.toArray false) Q n ds m w :=
 fun a ha => wp_region_lit (h a ha)
theorem A_ (h : ∀ a, Loc n ds m a → Q .normal a w) : W P .skip Q n ds m w := fun a ha => wp_skip (h a ha)
theorem AA (h : ∀ a, Loc n ds m a → Q .ret a w) : W P .ret Q n ds m w := fun a ha => wp_ret (h a ha)
theorem AQ {id : Nat} (h : ∀ a, Loc n ds m a → Q (.exit id) a w) : W P (.exit id) Q n ds m w := fun a ha => wp_exit (h a ha)
theorem A1 {id : Nat} {c : Code} (h : W P c (Exit.inBlock id Q) n ds m w) : W P (.block id c) Q n ds m w := fun a ha => wp_block (h a ha)
theorem AK {c : Operand} {x y : Code} {t : Bool} (hc : ev m c = some (.bool t)) (ht : t = true → W P x Q n ds m w) (hf : t = false → W P y Q n ds m w) :
 W P (.cond c x y) Q n ds m w :=
 fun a ha => wp_cond_split (ha.eval hc) (fun h => ht h a ha) (fun h => hf h a ha)
theorem Ax {c : Operand} {x y : Code} (hc : ev m c = some (.bool true)) (h : W P x Q n ds m w) : W P (.cond c x y) Q n ds m w :=
 fun a ha => wp_cond_true (ha.eval hc) (h a ha)
theorem A9 {c : Operand} {x y : Code} (hc : ev m c = some (.bool false)) (h : W P y Q n ds m w) : W P (.cond c x y) Q n ds m w :=
 fun a ha => wp_cond_false (ha.eval hc) (h a ha)
theorem AW {ι : Type} {c : Code} (E : ι → Env) (I : ι → World → Prop) (μ : ι → Nat) (i₀ : ι) (hs : Sub (E i₀) m) (h₀ : I i₀ w)
 (round : ∀ i w, I i w → W P c (Exit.then (fun a' w' => ∃ j, Loc n ds (E j) a' ∧ I j w' ∧ μ j < μ i) Q) n ds (E i) w) :
 W P (.loop c) Q n ds m w := by
 intro a ha b k cs
 have key : ∀ (N : Nat) (i : ι) (a : Act) (w : World), μ i = N → Loc n ds (E i) a → I i w →
  ∃ e a' w', Q e a' w' ∧ Arrives P (lone (b.at a (.code c :: .inLoop c :: k)) cs w) b k cs e a' w' := by
  intro N
  induction N using Nat.strongRecOn with
  | _ N ih =>
   intro i a w hN hl hI
   obtain ⟨e, a₁, w₁, hq, harr⟩ := round i w hI a hl b (.inLoop c :: k) cs
   cases e with
   | normal =>
    obtain ⟨j, hl', hI', hlt⟩ := hq
    obtain ⟨e₂, a₂, w₂, hq₂, harr₂⟩ := ih (μ j) (hN ▸ hlt) j a₁ w₁ rfl hl' hI'
    exact ⟨e₂, a₂, w₂, hq₂, .of_steps (Steps.trans harr (.one step_inLoop)) harr₂⟩
   | exit id => exact ⟨_, a₁, w₁, hq, .pass (x := .inLoop c) V (fun _ _ => .inl (by simp)) harr⟩
   | goto l => exact ⟨_, a₁, w₁, hq, .pass (x := .inLoop c) V (fun _ _ => .inl (by simp)) harr⟩
   | ret => exact ⟨_, a₁, w₁, hq, .pass (x := .inLoop c) V (fun _ _ => .inl (by simp)) harr⟩
   | panic ch => exact ⟨_, a₁, w₁, hq, .pass (x := .inLoop c) V (fun _ _ => .inl (by simp)) harr⟩
   | outgrown => exact ⟨_, a₁, w₁, hq, .pass (x := .inLoop c) V (fun _ _ => .inl (by simp)) harr⟩
 obtain ⟨e, a', w', hq, harr⟩ := key _ i₀ a w rfl (ha.weak hs) h₀
 exact ⟨e, a', w', hq, .of_steps (.one step_loop) harr⟩
theorem A2 (h : ∀ a, Loc n ds m a → Q .normal a w) : WL P ops Q [] n ds m w := fun a ha => h a ha
theorem Ae {y : Code} (h : W P y Q n ds m w) : WL P ops (Exit.then (y.wp P Q) Q) [] n ds m w := fun a ha => h a ha
theorem Ar {y : Code} (l : Env) (hs : Sub l m) (h : W P y Q n ds l w) : WL P ops (Exit.then (y.wp P Q) Q) [] n ds m w := fun a ha => h a (ha.weak hs)
theorem CI {o : Oper} {d : Nat} {v : Value} {w' : World} (hg : o.guard = none) (hd : o.dst = some d) (hb : Nat.blt d n = true)
 (hr : ∀ a, Loc n ds m a → (execOp a.eval o).run P w = .ok (.value v) w')
 (h : WL P ops Q rest n ds ((d, v) :: m) w') : WL P ops Q (o :: rest) n ds m w :=
 fun a ha => wpList_plain hg fun K hK => by
  unfold Oper.wp
  rw [hr a ha, Oper.upon_value, hd]
  exact hK _ _ (h _ (ha.put d v hb))
theorem MW {o : Oper} {w' : World} (hg : o.guard = none) (hd : o.dst = none)
 (hr : ∀ a, Loc n ds m a → (execOp a.eval o).run P w = .ok .skip w')
 (h : WL P ops Q rest n ds m w') : WL P ops Q (o :: rest) n ds m w :=
 fun a ha => wpList_plain hg fun K hK => by
  unfold Oper.wp
  rw [hr a ha, Oper.upon_skip, hd]
  exact hK _ _ (h _ ha)
theorem Ag {d : Nat} {op : Op} {ty : TypeId} {pos : String} {aft : Array Edge} {j : Nat} {want : Bool} {o' : Oper} {dj : Nat}
 (hj : ops[j]? = some o') (hdj : o'.dst = some dj) (hv : m.get dj = some (.bool want))
 (h : WL P ops Q (⟨some d, op, ty, pos, aft, none⟩ :: rest) n ds m w) : WL P ops Q (⟨some d, op, ty, pos, aft, some (j, want)⟩ :: rest) n ds m w := by
 intro a ha
 have h1 := h a ha
 unfold wpList at h1 ⊢
 have hw : Region.wanted ⟨some d, op, ty, pos, aft, some (j, want)⟩ (yielded ops a.tmps) = true := by
  simp [Region.wanted, yielded, hj, hdj, ha.slot dj _ hv]
 have hw' : Region.wanted ⟨some d, op, ty, pos, aft, none⟩ (yielded ops a.tmps) = true := by simp [Region.wanted]
 rw [if_pos hw]
 rw [if_pos hw'] at h1
 exact h1
def Io (v : Value) (b : Bool) : Bool := match v with
 | .bool c => c == b
 | _ => false
theorem B6 {d : Nat} {op : Op} {ty : TypeId} {pos : String} {aft : Array Edge} {j : Nat} {want : Bool} {o' : Oper} {dj : Nat} {vj : Value}
 (hj : ops[j]? = some o') (hdj : o'.dst = some dj) (hv : m.get dj = some vj) (hn : Io vj want = false) (hb : Nat.blt d n = true)
 (h : WL P ops Q rest n ds ((d, undef) :: m) w) : WL P ops Q (⟨some d, op, ty, pos, aft, some (j, want)⟩ :: rest) n ds m w := by
 intro a ha
 have h1 := h _ (ha.put d undef hb)
 unfold wpList
 have hw : Region.wanted ⟨some d, op, ty, pos, aft, some (j, want)⟩ (yielded ops a.tmps) = false := by
  simp only [Region.wanted, yielded, hj, hdj, Option.bind_some, ha.slot dj _ hv]
  cases vj <;> simp_all [Io]
 rw [hw]
 exact h1
end
end Go.Sx
namespace Go.Sx
section
variable {P : Program} {ops : Array Oper} {Q : Exit → Act → World → Prop} {rest : List Oper} {n : Nat} {ds : List Deferred} {m : Env} {w : World}
 {d : Nat} {ty : TypeId} {pos : String} {aft : Array Edge}
theorem Ac {x : Operand} {v : Value} (hx : ev m x = some v) (hb : Nat.blt d n = true) (h : WL P ops Q rest n ds ((d, v) :: m) w) :
 WL P ops Q (⟨some d, .move x, ty, pos, aft, none⟩ :: rest) n ds m w :=
 CI rfl rfl hb (fun a ha => by simp [execOp, ha.eval hx]) h
theorem Ah {x : Operand} {v : Value} (hx : ev m x = some v) (hb : Nat.blt d n = true) (h : WL P ops Q rest n ds ((d, v) :: m) w) :
 WL P ops Q (⟨some d, .assign x, ty, pos, aft, none⟩ :: rest) n ds m w :=
 CI rfl rfl hb (fun a ha => by simp [execOp, ha.eval hx]) h
theorem AI {c x y : Operand} {b : Bool} {v : Value} (hc : ev m c = some (.bool b)) (hx : (match b with | true => ev m x | false => ev m y) = some v) (hb : Nat.blt d n = true)
 (h : WL P ops Q rest n ds ((d, v) :: m) w) : WL P ops Q (⟨some d, .pick c x y, ty, pos, aft, none⟩ :: rest) n ds m w :=
 CI rfl rfl hb (fun a ha => by
  cases b
  · simp [execOp, ha.eval hc, asBool, ha.eval hx]
  · simp [execOp, ha.eval hc, asBool, ha.eval hx]) h
theorem Ai {t : TypeId} {x : Operand} {p : Addr} {v : Value} (hx : ev m x = some (.pointer (some p))) (hr : (loadVar t p).run P w = .ok v w) (hb : Nat.blt d n = true)
 (h : WL P ops Q rest n ds ((d, v) :: m) w) : WL P ops Q (⟨some d, .load t x, ty, pos, aft, none⟩ :: rest) n ds m w :=
 CI rfl rfl hb (fun a ha => by simp [execOp, ha.eval hx, Instr.loadAt, Instr.sureAddr, hr]) h
theorem An {t : TypeId} {x y : Operand} {p : Addr} {v : Value} {w' : World} (hx : ev m x = some (.pointer (some p))) (hy : ev m y = some v)
 (hr : (storeVar t p v).run P w = .ok () w')
 (h : WL P ops Q rest n ds m w') : WL P ops Q (⟨none, .store t x y, ty, pos, aft, none⟩ :: rest) n ds m w :=
 MW rfl rfl (fun a ha => by simp [execOp, ha.eval hx, ha.eval hy, Instr.storeAt, Instr.sureAddr, hr]) h
theorem As {x : Operand} {p : Addr} (hx : ev m x = some (.pointer (some p))) (hb : Nat.blt d n = true)
 (h : WL P ops Q rest n ds ((d, .pointer (some p)) :: m) w) : WL P ops Q (⟨some d, .nilCheck x, ty, pos, aft, none⟩ :: rest) n ds m w :=
 CI rfl rfl hb (fun a ha => by simp [execOp, ha.eval hx]) h
theorem Ab {s k : Nat} {x : Operand} {p q : Addr} (hx : ev m x = some (.pointer (some p))) (hr : (Instr.fieldAt s (.pointer (some p)) k).run P w = .ok (.pointer (some q)) w) (hb : Nat.blt d n = true)
 (h : WL P ops Q rest n ds ((d, .pointer (some q)) :: m) w) : WL P ops Q (⟨some d, .fieldAddr s x k, ty, pos, aft, none⟩ :: rest) n ds m w :=
 CI rfl rfl hb (fun a ha => by simp [execOp, ha.eval hx, hr]) h
theorem A0 {t : Nat} {x y : Operand} {vx vy v : Value} (hx : ev m x = some vx) (hy : ev m y = some vy) (hr : (Instr.indexAt t vx vy).run P w = .ok v w) (hb : Nat.blt d n = true)
 (h : WL P ops Q rest n ds ((d, v) :: m) w) : WL P ops Q (⟨some d, .indexAddr t x y, ty, pos, aft, none⟩ :: rest) n ds m w :=
 CI rfl rfl hb (fun a ha => by simp [execOp, ha.eval hx, ha.eval hy, hr]) h
theorem Al {op : BinOp} {t u : Nat} {x y : Operand} {k k' : IntKind} {i j : Int} {v : Value} (hx : ev m x = some (.int k i)) (hy : ev m y = some (.int k' j))
 (hr : (binOp op t (.int k i) (.int k' j)).run P w = .ok v w) (hb : Nat.blt d n = true)
 (h : WL P ops Q rest n ds ((d, v) :: m) w) : WL P ops Q (⟨some d, .binOp op t x y u, ty, pos, aft, none⟩ :: rest) n ds m w :=
 CI rfl rfl hb (fun a ha => by
  have he : eqGuard op t x y (.int k i) (.int k' j) = pure () := by unfold eqGuard; cases op <;> rfl
  simp [execOp, ha.eval hx, ha.eval hy, he, hr]) h
theorem Dh {op : BinOp} {t u : Nat} {x y : Operand} {i j : ByteArray} {v : Value} (hx : ev m x = some (.string i)) (hy : ev m y = some (.string j))
 (hr : (binOp op t (.string i) (.string j)).run P w = .ok v w) (hb : Nat.blt d n = true)
 (h : WL P ops Q rest n ds ((d, v) :: m) w) : WL P ops Q (⟨some d, .binOp op t x y u, ty, pos, aft, none⟩ :: rest) n ds m w :=
 CI rfl rfl hb (fun a ha => by
  have he : eqGuard op t x y (.string i) (.string j) = pure () := by unfold eqGuard; cases op <;> rfl
  simp [execOp, ha.eval hx, ha.eval hy, he, hr]) h
theorem AG {op : BinOp} {t u : Nat} {x y : Operand} {vx vy v : Value} (hx : ev m x = some vx) (hy : ev m y = some vy)
 (hg : (eqGuard op t x y vx vy).run P w = .ok () w) (hr : (binOp op t vx vy).run P w = .ok v w) (hb : Nat.blt d n = true)
 (h : WL P ops Q rest n ds ((d, v) :: m) w) : WL P ops Q (⟨some d, .binOp op t x y u, ty, pos, aft, none⟩ :: rest) n ds m w :=
 CI rfl rfl hb (fun a ha => by simp [execOp, ha.eval hx, ha.eval hy, hg, hr]) h
theorem Bt {t : Nat} {x : Operand} {b : Bool} (hx : ev m x = some (.bool b)) (hb : Nat.blt d n = true)
 (h : WL P ops Q rest n ds ((d, .bool (!b)) :: m) w) : WL P ops Q (⟨some d, .unOp .not t x, ty, pos, aft, none⟩ :: rest) n ds m w :=
 CI rfl rfl hb (fun a ha => by simp [execOp, ha.eval hx, Op.unary]) h
theorem JI {op : UnOp} {t : Nat} {x : Operand} {vx v : Value} (hx : ev m x = some vx) (hr : (Op.unary op vx).run P w = .ok v w) (hb : Nat.blt d n = true)
 (h : WL P ops Q rest n ds ((d, v) :: m) w) : WL P ops Q (⟨some d, .unOp op t x, ty, pos, aft, none⟩ :: rest) n ds m w :=
 CI rfl rfl hb (fun a ha => by simp [execOp, ha.eval hx, hr]) h
theorem AJ {s t : Nat} {x : Operand} {vx v : Value} {w' : World} (hx : ev m x = some vx) (hr : (convert s t vx).run P w = .ok v w') (hb : Nat.blt d n = true)
 (h : WL P ops Q rest n ds ((d, v) :: m) w') : WL P ops Q (⟨some d, .convert s t x, ty, pos, aft, none⟩ :: rest) n ds m w :=
 CI rfl rfl hb (fun a ha => by simp [execOp, ha.eval hx, hr]) h
theorem Cn {x : Operand} {vs : Array Value} {k : Nat} {v : Value} (hx : ev m x = some (.tuple vs)) (hk : vs[k]? = some v) (hb : Nat.blt d n = true)
 (h : WL P ops Q rest n ds ((d, v) :: m) w) : WL P ops Q (⟨some d, .extract x k, ty, pos, aft, none⟩ :: rest) n ds m w :=
 CI rfl rfl hb (fun a ha => by simp [execOp, ha.eval hx, Instr.extract, hk]) h
theorem AH {f : FuncId} {first cap : Array Operand} {fs cs : List Value} (hf : Ly m first.toList = some fs) (hc : Ly m cap.toList = some cs) (hb : Nat.blt d n = true)
 (h : WL P ops Q rest n ds ((d, .func (.func f) fs.toArray cs.toArray) :: m) w) : WL P ops Q (⟨some d, .makeFunc (.func f) first cap, ty, pos, aft, none⟩ :: rest) n ds m w :=
 CI rfl rfl hb (fun a ha => by
  have h1 : first.map a.eval = fs.toArray := Array.toList_inj.mp (by simpa using ha.evals hf)
  have h2 : cap.map a.eval = cs.toArray := Array.toList_inj.mp (by simpa using ha.evals hc)
  simp [execOp, Instr.makeFunc, h1, h2]) h
theorem Cd {t : TypeId} {x : Operand} {v : Value} (hx : ev m x = some v) (hb : Nat.blt d n = true)
 (h : WL P ops Q rest n ds ((d, .pointer (some ⟨w.heap.size, 0, none⟩)) :: m) (w.alloc (.cells v.cells t))) : WL P ops Q (⟨some d, .box t x, ty, pos, aft, none⟩ :: rest) n ds m w :=
 CI rfl rfl hb (fun a ha => by simp [execOp, ha.eval hx, Instr.box, newVar, newRow]) h
theorem AO {t : TypeId} {z : Value} (hz : (zeroValue t).run P w = .ok z w) (hb : Nat.blt d n = true)
 (h : WL P ops Q rest n ds ((d, .pointer (some ⟨w.heap.size, 0, none⟩)) :: m) (w.alloc (.cells z.cells t))) : WL P ops Q (⟨some d, .alloc t, ty, pos, aft, none⟩ :: rest) n ds m w :=
 CI rfl rfl hb (fun a ha => by simp [execOp, Instr.alloc, newVar, newRow, hz]) h
theorem AE {t : TypeId} {x : Operand} {vx v : Value} (hx : ev m x = some vx) (hr : (Builtin.len_ #[t] ty #[vx]).run P w = .ok v w) (hb : Nat.blt d n = true)
 (h : WL P ops Q rest n ds ((d, v) :: m) w) : WL P ops Q (⟨some d, .call { callee := .builtin .len, args := #[x], argTypes := #[t] }, ty, pos, aft, none⟩ :: rest) n ds m w :=
 CI rfl rfl hb (fun a ha => by simp [execOp, resolve, invoke, builtin, ha.eval hx, hr]) h
theorem AU {t u : TypeId} {x y : Operand} {vx vy v : Value} {w' : World} (hx : ev m x = some vx) (hy : ev m y = some vy)
 (hr : (Builtin.append_ #[t, u] ty #[vx, vy]).run P w = .ok v w') (hb : Nat.blt d n = true)
 (h : WL P ops Q rest n ds ((d, v) :: m) w') : WL P ops Q (⟨some d, .call { callee := .builtin .append, args := #[x, y], argTypes := #[t, u] }, ty, pos, aft, none⟩ :: rest) n ds m w :=
 CI rfl rfl hb (fun a ha => by simp [execOp, resolve, invoke, builtin, ha.eval hx, ha.eval hy, hr]) h
theorem Cl {t : TypeId} {parts : Array (Nat × Operand)} {vs : List Value} {v : Value} (hp : Ly m (parts.toList.map (·.2)) = some vs)
 (hr : (Instr.build t ((parts.toList.map (·.1)).zip vs).toArray).run P w = .ok v w) (hb : Nat.blt d n = true)
 (h : WL P ops Q rest n ds ((d, v) :: m) w) : WL P ops Q (⟨some d, .build t parts, ty, pos, aft, none⟩ :: rest) n ds m w :=
 CI rfl rfl hb (fun a ha => by
  have h1 : (parts.map fun (i, x) => (i, a.eval x)) = ((parts.toList.map (·.1)).zip vs).toArray := by
   rw [← ha.evals hp]
   apply Array.toList_inj.mp
   simp [List.zip_map', List.map_map]
  simp only [execOp, h1, Sem.run_bind, hr, Result.andThen_ok, Sem.run_pure]) h
theorem A7 {t len : Nat} {parts : Array (Nat × Operand)} {vs : List Value} {v : Value} {w' : World} (hp : Ly m (parts.toList.map (·.2)) = some vs)
 (hr : (Instr.buildSlice t len ((parts.toList.map (·.1)).zip vs).toArray).run P w = .ok v w') (hb : Nat.blt d n = true)
 (h : WL P ops Q rest n ds ((d, v) :: m) w') : WL P ops Q (⟨some d, .buildSlice t len parts, ty, pos, aft, none⟩ :: rest) n ds m w :=
 CI rfl rfl hb (fun a ha => by
  have h1 : (parts.map fun (i, x) => (i, a.eval x)) = ((parts.toList.map (·.1)).zip vs).toArray := by
   rw [← ha.evals hp]
   apply Array.toList_inj.mp
   simp [List.zip_map', List.map_map]
  simp only [execOp, h1, Sem.run_bind, hr, Result.andThen_ok, Sem.run_pure]) h
theorem DV {t : TypeId} {x : Operand} {lo hi : Option Operand} {vx v : Value} {vl vh : Option Value} (hx : ev m x = some vx)
 (hl : (match lo with | none => some none | some y => (ev m y).map some) = some vl) (hh : (match hi with | none => some none | some y => (ev m y).map some) = some vh)
 (hr : (Instr.sliceAt t vx vl vh none).run P w = .ok v w) (hb : Nat.blt d n = true)
 (h : WL P ops Q rest n ds ((d, v) :: m) w) : WL P ops Q (⟨some d, .slice t x lo hi none, ty, pos, aft, none⟩ :: rest) n ds m w :=
 CI rfl rfl hb (fun a ha => by
  have h1 : lo.map a.eval = vl := by
   cases lo with
   | none => simpa using hl
   | some y =>
    simp only [Option.map_eq_some_iff] at hl
    obtain ⟨u, hu, rfl⟩ := hl
    simp [ha.eval hu]
  have h2 : hi.map a.eval = vh := by
   cases hi with
   | none => simpa using hh
   | some y =>
    simp only [Option.map_eq_some_iff] at hh
    obtain ⟨u, hu, rfl⟩ := hh
    simp [ha.eval hu]
  simp [execOp, ha.eval hx, h1, h2, hr]) h
theorem IV {t : TypeId} {x y : Operand} {c : Bool} {vx vy v : Value} (hx : ev m x = some vx) (hy : ev m y = some vy)
 (hr : (Instr.lookup t vx vy c).run P w = .ok v w) (hb : Nat.blt d n = true)
 (h : WL P ops Q rest n ds ((d, v) :: m) w) : WL P ops Q (⟨some d, .lookup t x y c, ty, pos, aft, none⟩ :: rest) n ds m w :=
 CI rfl rfl hb (fun a ha => by simp [execOp, ha.eval hx, ha.eval hy, hr]) h
theorem I4 {t : TypeId} {x y z : Operand} {vx vy vz : Value} {w' : World} (hx : ev m x = some vx) (hy : ev m y = some vy) (hz : ev m z = some vz)
 (hr : (Instr.mapUpdate t vx vy vz).run P w = .ok () w')
 (h : WL P ops Q rest n ds m w') : WL P ops Q (⟨none, .mapUpdate t x y z, ty, pos, aft, none⟩ :: rest) n ds m w :=
 MW rfl rfl (fun a ha => by simp [execOp, ha.eval hx, ha.eval hy, ha.eval hz, hr]) h
theorem Kj {t : TypeId} {v : Value} {w' : World}
 (hr : (Instr.makeMap t none).run P w = .ok v w') (hb : Nat.blt d n = true)
 (h : WL P ops Q rest n ds ((d, v) :: m) w') : WL P ops Q (⟨some d, .makeMap t none, ty, pos, aft, none⟩ :: rest) n ds m w :=
 CI rfl rfl hb (fun a _ => by simp [execOp, hr]) h
theorem Eg {t : TypeId} {x : Operand} {vx v : Value} (hx : ev m x = some vx)
 (hr : (Instr.makeInterface t vx).run P w = .ok v w) (hb : Nat.blt d n = true)
 (h : WL P ops Q rest n ds ((d, v) :: m) w) : WL P ops Q (⟨some d, .makeInterface t x, ty, pos, aft, none⟩ :: rest) n ds m w :=
 CI rfl rfl hb (fun a ha => by simp [execOp, ha.eval hx, hr]) h
theorem NR {x : Operand} {vx v : Value} {o : Oper} (ho : o.op = .panic x) (hg : o.guard = none) (hx : ev m x = some vx)
 (hr : (Instr.panic vx : Sem Value).run P w = .halt (.panic v) w)
 (h : ∀ a, Loc n ds m a → Q (.panic [{ v, recovered := false }]) a w) : WL P ops Q (o :: rest) n ds m w :=
 fun a ha => wpList_plain hg fun K hK => by
  unfold Oper.wp
  have : (execOp a.eval o).run P w = .halt (.panic v) w := by simp [execOp, ho, ha.eval hx, hr, Result.andThen]
  rw [this, Oper.upon_panic]
  exact h a ha
def Dq (R : Value → World → Prop) (S : List PanicEntry → World → Prop) : Ending → World → Prop
 | .returned v, w => R v w
 | .panicked ch, w => S ch w
 | .outgrown, _ => False
def IN (P : Program) (f : FuncId) : Prop := ∀ args w, (callFunc f args).run P w = .ok (.enter f args) w
theorem Aj {f : FuncId} {args : Array Operand} {ats : Array TypeId} {vs : List Value} {R : Value → World → Prop} {S : List PanicEntry → World → Prop}
 (hc : IN P f) (ha' : Ly m args.toList = some vs) (hb : Nat.blt d n = true) (hcall : Calls P f vs.toArray w (Dq R S))
 (hR : ∀ v w', R v w' → WL P ops Q rest n ds ((d, v) :: m) w') (hS : ∀ ch w', S ch w' → ∀ a, Loc n ds m a → Q (.panic ch) a w') :
 WL P ops Q (⟨some d, .call { callee := .value (.func f), args := args, argTypes := ats }, ty, pos, aft, none⟩ :: rest) n ds m w :=
 fun a ha => wpList_plain rfl fun K hK => by
  have h1 : args.map a.eval = vs.toArray := Array.toList_inj.mp (by simpa using ha.evals ha')
  have : (execOp a.eval ⟨some d, .call { callee := .value (.func f), args := args, argTypes := ats }, ty, pos, aft, none⟩).run P w = .ok (.enter f vs.toArray) w := by
   simp [execOp, resolve, invoke, Deferred.ofValue, Act.eval, h1, hc _ _]
  unfold Oper.wp
  rw [this, Oper.upon_enter]
  refine hcall.mono ?_
  intro e w' he
  cases e with
  | returned v => exact hK _ _ (hR v w' he _ (ha.put d v hb))
  | panicked ch => exact hS ch w' he a ha
  | outgrown => exact he.elim
theorem B8 {x : Operand} {f : FuncId} {first cap : Array Value} {args : Array Operand} {ats : Array TypeId} {vs : List Value} {R : Value → World → Prop} {S : List PanicEntry → World → Prop}
 (hx : ev m x = some (.func (.func f) first cap))
 (hc : IN P f) (ha' : Ly m args.toList = some vs) (hb : Nat.blt d n = true) (hcall : Calls P f (first ++ vs.toArray ++ cap) w (Dq R S))
 (hR : ∀ v w', R v w' → WL P ops Q rest n ds ((d, v) :: m) w') (hS : ∀ ch w', S ch w' → ∀ a, Loc n ds m a → Q (.panic ch) a w') :
 WL P ops Q (⟨some d, .call { callee := .value x, args := args, argTypes := ats }, ty, pos, aft, none⟩ :: rest) n ds m w :=
 fun a ha => wpList_plain rfl fun K hK => by
  have h1 : args.map a.eval = vs.toArray := Array.toList_inj.mp (by simpa using ha.evals ha')
  have : (execOp a.eval ⟨some d, .call { callee := .value x, args := args, argTypes := ats }, ty, pos, aft, none⟩).run P w = .ok (.enter f (first ++ vs.toArray ++ cap)) w := by
   simp [execOp, resolve, invoke, Deferred.ofValue, ha.eval hx, h1, hc _ _]
  unfold Oper.wp
  rw [this, Oper.upon_enter]
  refine hcall.mono ?_
  intro e w' he
  cases e with
  | returned v => exact hK _ _ (hR v w' he _ (ha.put d v hb))
  | panicked ch => exact hS ch w' he a ha
  | outgrown => exact he.elim
theorem Es {x : Operand} {fn : Fn} {first cap : Array Value} (hx : ev m x = some (.func fn first cap))
 (h : WL P ops Q rest n ({ target := .fn fn cap, args := first ++ #[] } :: ds) m w) :
 WL P ops Q (⟨none, .defer { callee := .value x, args := #[], argTypes := #[] }, ty, pos, aft, none⟩ :: rest) n ds m w :=
 fun a ha => wpList_plain rfl fun K hK => by
  have : (execOp a.eval ⟨none, .defer { callee := .value x, args := #[], argTypes := #[] }, ty, pos, aft, none⟩).run P w = .ok (.defer { target := .fn fn cap, args := first ++ #[] }) w := by
   simp [execOp, resolve, Deferred.ofValue, ha.eval hx]
  unfold Oper.wp
  rw [this, Oper.upon_defer]
  exact hK _ _ (h _ (ha.defer _))
theorem Aq {A : Act → World → Prop} {id : Nat} {a : Act} (h : Q (.exit id) a w) : Exit.then A Q (.exit id) a w := h
theorem Ao {A : Act → World → Prop} {a : Act} (h : Q .ret a w) : Exit.then A Q .ret a w := h
theorem Am {A : Act → World → Prop} {ch : List PanicEntry} {a : Act} (h : Q (.panic ch) a w) : Exit.then A Q (.panic ch) a w := h
theorem Ad {A : Act → World → Prop} {a : Act} (h : A a w) : Exit.then A Q .normal a w := h
theorem Aw {id : Nat} {a : Act} (h : Q .ret a w) : Exit.inBlock id Q .ret a w := h
theorem AD {id : Nat} {ch : List PanicEntry} {a : Act} (h : Q (.panic ch) a w) : Exit.inBlock id Q (.panic ch) a w := h
theorem Az {id : Nat} {a : Act} (h : Q .normal a w) : Exit.inBlock id Q .normal a w := h
theorem Iq {id j : Nat} {a : Act} (hj : Nat.beq j id = false) (h : Q (.exit j) a w) : Exit.inBlock id Q (.exit j) a w := by
 have : j ≠ id := fun e => by subst e; simp [Nat.beq_refl] at hj
 simp [Exit.inBlock, this, h]
theorem A3 {id : Nat} {a : Act} (h : Q .normal a w) : Exit.inBlock id Q (.exit id) a w := by simp [Exit.inBlock, h]
def GY : Nat → List Value → Env
 | _, [] => []
 | i, v :: vs => (i, v) :: GY (i + 1) vs
theorem Kh : ∀ (vs : List Value) (k i : Nat) (v : Value), (GY k vs).get i = some v → k ≤ i ∧ vs[i - k]? = some v
 | [], _, _, _, h => by simp [GY, Env.get] at h
 | u :: vs, k, i, v, h => by
  simp only [GY, Env.get] at h
  cases hb : Nat.beq k i with
  | true =>
   rw [hb] at h
   have := Nat.eq_of_beq_eq_true hb
   subst this
   cases h
   simp
  | false =>
   rw [hb] at h
   have ⟨h1, h2⟩ := Kh vs (k + 1) i v h
   refine ⟨by omega, ?_⟩
   have : i - k = (i - (k + 1)) + 1 := by omega
   rw [this]; simpa using h2
theorem EO (n : Nat) (vs : List Value) (hn : vs.length ≤ n) :
 Loc n [] (GY 0 vs) { tmps := vs.toArray ++ Array.replicate (n - vs.toArray.size) undef, defers := [] } := by
 refine ⟨by simp; omega, rfl, ?_⟩
 intro i v hv
 have ⟨_, h2⟩ := Kh vs 0 i v hv
 simp only [Nat.sub_zero] at h2
 have hi : i < vs.length := (List.getElem?_eq_some_iff.1 h2).1
 have h3 : vs[i] = v := (List.getElem?_eq_some_iff.1 h2).2
 simp [Array.getElem?_append, hi, h3]
theorem AB {f : FuncId} {fn : Func} {c : Code} {vs : List Value} {R : Ending → World → Prop}
 (n : Nat) (hf : P.funcs[f]? = some fn) (hb : fn.body = some c) (hn : fn.ntmps = n) (hl : Nat.ble vs.length n = true)
 (h : W P c (bodyPost P fn R) n [] (GY 0 vs) w) : Calls P f vs.toArray w R := by
 subst hn
 exact calls_of_wp hf hb (h _ (by simpa using EO fn.ntmps vs (Nat.le_of_ble_eq_true hl)))
theorem Eu {f : FuncId} {fn : Func} {c : Code} {vs : List Value} {R : Ending → World → Prop}
 (n : Nat) (hf : P.funcs[f]? = some fn) (hb : fn.body = some c) (hn : fn.ntmps = n) (hl : Nat.ble vs.length n = true)
 (h : W P c (bodyPostD P fn R) n [] (GY 0 vs) w) : Calls P f vs.toArray w R := by
 subst hn
 exact calls_of_wp_defers hf hb (h _ (by simpa using EO fn.ntmps vs (Nat.le_of_ble_eq_true hl)))
theorem Mb {f : FuncId} {fn : Func} {c : Code} {vs : List Value} {u : FrameMode} {R : Ending → World → Prop}
 (n : Nat) (hf : P.funcs[f]? = some fn) (hb : fn.body = some c) (hn : fn.ntmps = n) (hl : Nat.ble vs.length n = true)
 (h : W P c (bodyPost P fn R) n [] (GY 0 vs) w) : CallsD P f vs.toArray u w fun e u' w' => u' = u ∧ R e w' := by
 subst hn
 exact callsD_of_wp hf hb (h _ (by simpa using EO fn.ntmps vs (Nat.le_of_ble_eq_true hl)))
theorem Au {fn : Func} {t : Tmp} {R : Ending → World → Prop} {a : Act} {v : Value} (hres : fn.results = #[.tmp t]) (ha : Loc n [] m a) (hv : m.get t = some v) (h : R (.returned v) w) :
 bodyPost P fn R .ret a w :=
 bodyPost_ret (v := v) (by rw [results_tmp hres]; simp [Array.getD_eq_getD_getElem?, ha.slot t v hv]) ha.defers h
theorem Ea {fn : Func} {t t' : Tmp} {R : Ending → World → Prop} {a : Act} {v v' : Value} (hres : fn.results = #[.tmp t, .tmp t']) (ha : Loc n [] m a) (hv : m.get t = some v) (hv' : m.get t' = some v')
 (h : R (.returned (.tuple #[v, v'])) w) : bodyPost P fn R .ret a w :=
 bodyPost_ret (v := .tuple #[v, v']) (by rw [results_tmp2 hres]; simp [Array.getD_eq_getD_getElem?, ha.slot t v hv, ha.slot t' v' hv']) ha.defers h
theorem AV {fn : Func} {R : Ending → World → Prop} {a : Act} (hres : fn.results = #[]) (ha : Loc n [] m a) (h : R (.returned (.tuple #[])) w) :
 bodyPost P fn R .normal a w :=
 bodyPost_end (results_none hres _ _ _) ha.defers h
theorem Av {fn : Func} {R : Ending → World → Prop} {a : Act} {ch : List PanicEntry} (ha : Loc n [] m a) (h : R (.panicked ch) w) : bodyPost P fn R (.panic ch) a w :=
 ⟨ha.defers, h⟩
end
end Go.Sx
namespace Go.Sx
def At (w : World) (b o : Nat) (cs : List Value) : Prop := ∀ j v, cs[j]? = some v → w.cell? ⟨b, o + j, none⟩ = some v
def Blk (w : World) (b : Nat) (cs : List Value) (t : TypeId) : Prop := w.heap[b]? = some (.cells cs.toArray t (0, 0))
theorem Blk.lt {w : World} {b : Nat} {cs : List Value} {t : TypeId} (h : Blk w b cs t) : b < w.heap.size := (Array.getElem?_eq_some_iff.1 h).1
theorem Blk.cell {w : World} {b : Nat} {cs : List Value} {t : TypeId} (h : Blk w b cs t) (o : Nat) : w.cell? ⟨b, o, none⟩ = cs[o]? := by
 unfold Blk at h
 simp [World.cell?, h]
theorem Blk.at_ {w : World} {b : Nat} {cs : List Value} {t : TypeId} (h : Blk w b cs t) (o n : Nat) : At w b o ((cs.drop o).take n) := by
 intro j v hv
 rw [h.cell]
 rw [List.getElem?_take] at hv
 split at hv
 · simpa using hv
 · cases hv
theorem At.sub {w : World} {b o : Nat} {cs : List Value} (h : At w b o cs) (i n : Nat) : At w b (o + i) ((cs.drop i).take n) := by
 intro j v hv
 rw [List.getElem?_take] at hv
 split at hv
 · rw [List.getElem?_drop] at hv
   rw [Nat.add_assoc]
   exact h _ _ hv
 · cases hv
structure Fr (O : Nat → Prop) (w : World) (O' : Nat → Prop) (w' : World) : Prop where
 os : w'.os = w.os
 tape : w'.tape = w.tape
 output : w'.output = w.output
 size : w.heap.size ≤ w'.heap.size
 blk : ∀ b, b < w.heap.size → ¬ O b → w'.heap[b]? = w.heap[b]?
 own : ∀ b, O' b → O b ∨ w.heap.size ≤ b
theorem Fr.refl (O : Nat → Prop) (w : World) : Fr O w O w := ⟨rfl, rfl, rfl, Nat.le_refl _, fun _ _ _ => rfl, fun _ h => .inl h⟩
theorem Fr.trans {O O' O'' : Nat → Prop} {w w' w'' : World} (h : Fr O w O' w') (k : Fr O' w' O'' w'') : Fr O w O'' w'' := by
 refine ⟨k.os.trans h.os, k.tape.trans h.tape, k.output.trans h.output, Nat.le_trans h.size k.size, ?_, ?_⟩
 · intro b hb hn
   rw [k.blk b (Nat.lt_of_lt_of_le hb h.size) (fun ho => (h.own b ho).elim hn (fun hl => by omega)), h.blk b hb hn]
 · intro b hb
   rcases k.own b hb with h1 | h1
   · exact h.own b h1
   · exact .inr (Nat.le_trans h.size h1)
theorem Fr.alloc (O : Nat → Prop) (w : World) (o : Obj) : Fr O w O (w.alloc o) :=
 ⟨rfl, rfl, rfl, by simp, fun b hb _ => heap_alloc_old w o b hb, fun _ h => .inl h⟩
theorem Fr.drop {O U U' : Nat → Prop} {w w' : World} (h : Fr U w U' w') (hu : ∀ b, U b → O b) : Fr O w O w' :=
 ⟨h.os, h.tape, h.output, h.size, fun b hb hn => h.blk b hb (fun ho => hn (hu b ho)), fun _ h => .inl h⟩
structure Own (O : Nat → Prop) (w : World) (b : Nat) (cs : List Value) (t : TypeId) : Prop where
 blk : Blk w b cs t
 out : ¬ O b
theorem Fr.keep {O O' : Nat → Prop} {w w' : World} {b : Nat} {cs : List Value} {t : TypeId} (h : Fr O w O' w') (k : Own O w b cs t) : Own O' w' b cs t :=
 ⟨(h.blk b k.blk.lt k.out).trans k.blk, fun ho => (h.own b ho).elim k.out (fun hl => by have := k.blk.lt; omega)⟩
theorem Own.alloc {O : Nat → Prop} {w : World} {cs : List Value} {t : TypeId} (hO : ∀ b, O b → b < w.heap.size) : Own O (w.alloc (.cells cs.toArray t)) w.heap.size cs t :=
 ⟨heap_alloc_new w _, fun h => absurd (hO _ h) (by omega)⟩
theorem AN {w : World} {cs : List Value} {t : TypeId} : Blk (w.alloc (.cells cs.toArray t)) w.heap.size cs t := heap_alloc_new w _
section
variable {P : Program} {w : World}
structure By (P : Program) (t : TypeId) (agg : Bool) (n : Nat) : Prop where
 agg : ∀ w, (isAgg t).run P w = .ok agg w
 size : ∀ w, (sizeOf t).run P w = .ok n w
theorem A4 {t : TypeId} {n b o : Nat} {v : Value} (ht : By P t false n) (h : w.cell? ⟨b, o, none⟩ = some v) : (loadVar t ⟨b, o, none⟩).run P w = .ok v w := by
 simp [loadVar, ht.agg, h]
theorem Bg {t : TypeId} {n b o : Nat} {cs : List Value} (ht : By P t true n) (hl : cs.length = n) (h : At w b o cs) : (loadVar t ⟨b, o, none⟩).run P w = .ok (.agg cs.toArray) w := by
 have := run_loadCells_list (P := P) w ⟨b, o, none⟩ cs (fun j v hv => by rw [Addr.add_lit]; exact h j v hv)
 rw [hl] at this
 simp [loadVar, ht.agg, ht.size, this]
def Ch (cs : List Value) (o : Nat) (vs : List Value) : List Value := cs.take o ++ vs ++ cs.drop (o + vs.length)
theorem Kx {cs : List Value} {o : Nat} {vs : List Value} (h : o + vs.length ≤ cs.length) : (Ch cs o vs).length = cs.length := by
 simp [Ch]; omega
theorem BR {t u : TypeId} {agg : Bool} {n b o : Nat} {cs vs : List Value} {v : Value} (ht : By P t agg n) (hv : v.cells = vs.toArray) (hn : vs.length = n) (h1 : ∀ x ∈ vs, x.oneCell' = true)
 (hb : Blk w b cs u) (hl : o + vs.length ≤ cs.length) :
 (storeVar t ⟨b, o, none⟩ v).run P w = .ok () (w.setRow b (Ch cs o vs).toArray) := by
 have hs := run_storeCells_at P b o u vs 0 cs.toArray w hb (by simpa using hl) h1
 simp only [Nat.add_zero] at hs
 simp [storeVar, ht.size, hv, hn, hs, Ch]
theorem Blk.setRow {b : Nat} {cs : List Value} {t : TypeId} (h : Blk w b cs t) (cs' : List Value) : Blk (w.setRow b cs'.toArray) b cs' t := setRow_heap w b cs.toArray cs'.toArray t (0, 0) h
theorem BB (b : Nat) (c : Array Value) : (w.setRow b c).heap.size = w.heap.size := by simp [World.setRow]
theorem Fr.setRow {O : Nat → Prop} {b : Nat} (c : Array Value) (hb : O b) : Fr O w O (w.setRow b c) :=
 ⟨rfl, rfl, rfl, by simp, fun k _ hn => setRow_other w b k c (fun e => hn (e ▸ hb)), fun _ h => .inl h⟩
def AF (P : Program) (s k off : Nat) : Prop := ∀ w b o, (Instr.fieldAt s (.pointer (some ⟨b, o, none⟩)) k).run P w = .ok (.pointer (some ⟨b, o + off, none⟩)) w
theorem Bp {t e n : Nat} {agg : Bool} {b o len cap : Nat} {i : Int} (ht : P.underlying t = some (.slice e)) (he : By P e agg n) (h0 : 0 ≤ i) (h1 : i < len) :
 (Instr.indexAt t (.slice (some ⟨b, o, none⟩) len cap) (.int .i64 i)).run P w = .ok (.pointer (some ⟨b, o + i.toNat * n, none⟩)) w := by
 simp [Instr.indexAt, asIntOf, run_underlying ht, h0, h1, he.size, Addr.add_lit]
theorem Ay {t ty e : TypeId} {a : Option Addr} {len cap : Nat} (ht : P.underlying t = some (.slice e)) : (Builtin.len_ #[t] ty #[.slice a len cap]).run P w = .ok (.int .i64 len) w := by
 simp [Builtin.len_, run_underlying ht, goInt]
theorem GL {t ty : TypeId} {s : ByteArray} (ht : P.underlying t = some .string) : (Builtin.len_ #[t] ty #[.string s]).run P w = .ok (.int .i64 s.size) w := by
 simp [Builtin.len_, run_underlying ht, goInt]
theorem GB {t u ty e : TypeId} {i : TypeInfo} {z : Value} {size bytes : Nat} (ht : P.underlying t = some (.slice e)) (hi : P.info? e = some i) (hz : i.zero = some z)
 (hsize : i.size = size) (hby : i.bytes = bytes) (hzs : z.cells.size = size)
 {v : Value} {n : Nat} {xs : List Value} (hown : w.ownsRow 0 e size v n xs) {x : Value} {m : Nat} {news : List Value} (hs : Src P size u x m news w)
 (h63 : n + m ≤ maxLen) (hbytes : (n + m) * bytes ≤ 140737488355328) :
 ∃ v' w', (Builtin.append_ #[t, u] ty #[v, x]).run P w = .ok v' w' ∧ w'.ownsRow 0 e size v' (n + m) (xs ++ news) ∧ w.grownBy w' v.ownBlock ∧
  (v'.ownBlock = v.ownBlock ∨ v'.ownBlock = some w.heap.size) ∧ (0 < m → v'.ownBlock ≠ none) := by
 subst hsize hby
 have hsmall : n + m ≤ 9223372036854775807 := by simp only [maxLen] at h63; omega
 have hl := hs.newsLen
 have hlen : (xs ++ news).length = (n + m) * i.size := by rw [List.length_append, hown.1, hl, Nat.add_mul]
 have grown : ∀ (old : Nat), old < n + m →
  (w.drew.alloc (.cells ((xs ++ news).toArray ++ Builtin.zeroCells z.cells (grownCap w (n + m) old e - (n + m))) e)).ownsRow 0 e i.size
   (.slice (some ⟨w.heap.size, 0, none⟩) (n + m) (grownCap w (n + m) old e)) (n + m) (xs ++ news) ∧
  ∀ row, w.grownBy (w.drew.alloc (.cells ((xs ++ news).toArray ++ Builtin.zeroCells z.cells (grownCap w (n + m) old e - (n + m))) e)) row := by
  intro old ho
  have hge := grownCap_ge w (n + m) old e
  have hcm : grownCap w (n + m) old e ≤ maxLen := grownCap_le_maxLen w (n + m) old e h63
  refine ⟨⟨hlen, .inr ⟨w.heap.size, _, _, rfl, Nat.zero_le _, heap_alloc_new w.drew _, hge, hcm, ?_, ?_⟩⟩, fun row => ⟨rfl, rfl, rfl, by simp, fun k hk _ => heap_alloc_old w.drew _ k hk⟩⟩
  · simp only [Array.size_append, List.size_toArray, size_zeroCells, hzs, hlen, ← Nat.add_mul]
    congr 1
    omega
  · simp only [Array.toList_append]
    rw [← hlen]
    exact List.take_left
 rcases hown.2 with ⟨rfl, rfl⟩ | ⟨g, cap, cur, rfl, hbg, hg, hnc, hcm, hcs, htake⟩
 · have hx : xs = [] := List.eq_nil_of_length_eq_zero (by simpa using hown.1)
   subst hx
   by_cases hm : m = 0
   · subst hm
     have hn : news = [] := List.eq_nil_of_length_eq_zero (by simpa using hl)
     subst hn
     refine ⟨.slice none 0 0, w, ?_, World.ownsRow_nil w 0 e i.size, ⟨rfl, rfl, rfl, Nat.le_refl _, fun _ _ _ => rfl⟩, .inl V, by simp⟩
     rcases hs.kind with ⟨e', hk⟩ | hk <;> simp [Builtin.append_, run_underlying ht, run_underlying hk, sizeOf, typeInfo, hi, hs.len, hs.cells]
   · have hr := run_append_grow_src (P := P) w t u ty e i z ht hi hz none 0 0 [] (by simp [Builtin.firstCells]) x m news hs (by omega) (by omega) (growslice_fits (by omega) hbytes)
     have hgr := grown 0 (by omega)
     exact ⟨_, _, hr, hgr.1, hgr.2 _, .inr V, fun _ => by simp [Value.ownBlock]⟩
 · by_cases hroom : n + m ≤ cap
   · have hfit : n * i.size + news.length ≤ cur.size := by rw [hl, hcs, ← Nat.add_mul]; exact Nat.mul_le_mul_right _ hroom
     have hst := run_storeCells_at P g (n * i.size) e news 0 cur w hg (by simpa using hfit) hs.one
     simp only [Nat.add_zero] at hst
     refine ⟨.slice (some ⟨g, 0, none⟩) (n + m) cap, w.setRow g (cur.toList.take (n * i.size) ++ news ++ cur.toList.drop (n * i.size + news.length)).toArray, ?_,
      ⟨hlen, .inr ⟨g, cap, _, rfl, hbg, setRow_heap w g cur _ e _ hg, hroom, hcm, ?_, ?_⟩⟩, ⟨rfl, rfl, rfl, by simp, fun k _ hk => setRow_other w g k _ (fun e => hk (by simp [Value.ownBlock, e]))⟩, .inl rfl, fun _ => by simp [Value.ownBlock]⟩
     · rcases hs.kind with ⟨e', hk⟩ | hk <;> simp [Builtin.append_, run_underlying ht, run_underlying hk, sizeOf, typeInfo, hi, hs.len, hroom, hs.cells, Addr.add_lit, hst]
     · simp only [List.size_toArray, List.length_append, List.length_take, List.length_drop, Array.length_toList]
       omega
     · rw [htake, ← hlen]
       exact List.take_left
   · have holds : ∀ j u, xs[j]? = some u → w.drew.cell? ((⟨g, 0, none⟩ : Addr).add j) = some u := by simpa using hown.cells (g := g) rfl
     have hr := run_append_grow_src (P := P) w t u ty e i z ht hi hz (some ⟨g, 0, none⟩) n cap xs (run_firstCells_some w.drew i.size n ⟨g, 0, none⟩ n cap xs hown.1 holds) x m news hs (by omega) (by omega) (growslice_fits (by omega) hbytes)
     have hgr := grown cap (by omega)
     exact ⟨_, _, hr, hgr.1, hgr.2 _, .inr V, fun _ => by simp [Value.ownBlock]⟩
end
end Go.Sx
namespace Go.Sx
open Go.Proofs Go.Proofs.Tryz
theorem Cj : By prog 3 false 1 := ⟨isAgg3, sizeOf3⟩
theorem Dp : By prog 4 false 1 := ⟨isAgg4, sizeOf4⟩
theorem RX : By prog 5 false 1 := ⟨isAgg5, sizeOf5⟩
theorem Cc : By prog 9 false 1 := ⟨isAgg9, sizeOf9⟩
theorem Pp : By prog 22 false 1 := ⟨isAgg22, sizeOf22⟩
theorem Fl : By prog 26 false 1 := ⟨isAgg26, sizeOf26⟩
theorem KY : By prog 27 false 1 := ⟨isAgg27, sizeOf27⟩
theorem Lg : By prog 28 false 1 := ⟨isAgg28, sizeOf28⟩
theorem KX : By prog 29 false 1 := ⟨isAgg29, sizeOf29⟩
theorem Kn : By prog 30 false 1 := ⟨isAgg30, sizeOf30⟩
theorem GW : By prog 31 false 1 := ⟨isAgg31, sizeOf31⟩
theorem GV : By prog 32 false 1 := ⟨isAgg32, sizeOf32⟩
theorem Jm : By prog 33 false 1 := ⟨isAgg33, sizeOf33⟩
theorem Je : By prog 34 false 1 := ⟨isAgg34, sizeOf34⟩
theorem EE : By prog 36 true 10 := ⟨isAgg36, sizeOf36⟩
theorem OR : By prog 37 false 1 := ⟨isAgg37, sizeOf37⟩
theorem S3 : By prog 43 true 9 := ⟨isAgg43, sizeOf43⟩
theorem D_ : By prog 44 false 1 := ⟨isAgg44, sizeOf44⟩
theorem E9 : By prog 46 false 1 := ⟨isAgg46, sizeOf46⟩
theorem E5 : By prog 48 true 4 := ⟨isAgg48, sizeOf48⟩
theorem Dt : By prog 56 false 1 := ⟨isAgg56, sizeOf56⟩
theorem J2 : By prog 57 false 1 := ⟨isAgg57, sizeOf57⟩
theorem Pw : By prog 59 true 2 := ⟨isAgg59, sizeOf59⟩
theorem IL : By prog 61 true 2 := ⟨isAgg61, sizeOf61⟩
theorem D9 : By prog 63 true 5 := ⟨isAgg63, sizeOf63⟩
theorem Eh : By prog 64 false 1 := ⟨isAgg64, sizeOf64⟩
theorem BY : By prog 66 true 16 := ⟨isAgg66, sizeOf66⟩
theorem J1 : By prog 67 false 1 := ⟨isAgg67, sizeOf67⟩
theorem GT : By prog 68 false 1 := ⟨isAgg68, sizeOf68⟩
theorem Ky : By prog 69 false 1 := ⟨isAgg69, sizeOf69⟩
theorem J3 : By prog 70 false 1 := ⟨isAgg70, sizeOf70⟩
theorem Hh : By prog 72 true 51 := ⟨isAgg72, sizeOf72⟩
theorem Hd : By prog 74 true 12 := ⟨isAgg74, sizeOf74⟩
theorem Ha : By prog 76 true 18 := ⟨isAgg76, sizeOf76⟩
theorem Gz : By prog 84 true 6 := ⟨isAgg84, sizeOf84⟩
theorem Rj : By prog 85 false 1 := ⟨isAgg85, sizeOf85⟩
theorem Q9 : By prog 90 false 1 := ⟨isAgg90, sizeOf90⟩
theorem PS : By prog 131 false 1 := ⟨isAgg131, sizeOf131⟩
theorem Et : By prog 140 true 27 := ⟨isAgg140, sizeOf140⟩
theorem Em : By prog 144 true 29 := ⟨isAgg144, sizeOf144⟩
theorem Fb : By prog 149 false 1 := ⟨isAgg149, sizeOf149⟩
theorem Ds : By prog 151 true 18 := ⟨isAgg151, sizeOf151⟩
theorem Dw : By prog 157 true 5 := ⟨isAgg157, sizeOf157⟩
theorem Fp : By prog 160 false 1 := ⟨isAgg160, sizeOf160⟩
theorem DF : By prog 162 true 2 := ⟨isAgg162, sizeOf162⟩
theorem Fk : By prog 170 true 2 := ⟨isAgg170, sizeOf170⟩
theorem Ew : By prog 182 true 18 := ⟨isAgg182, sizeOf182⟩
theorem Qx : By prog 183 false 1 := ⟨isAgg183, sizeOf183⟩
theorem D2 : By prog 216 true 24 := ⟨isAgg216, sizeOf216⟩
theorem Hp : By prog 262 false 1 := ⟨isAgg262, sizeOf262⟩
theorem Eq : By prog 282 true 18 := ⟨isAgg282, sizeOf282⟩
theorem DJ : By prog 286 true 19 := ⟨isAgg286, sizeOf286⟩
theorem Fj : By prog 290 true 17 := ⟨isAgg290, sizeOf290⟩
theorem E7 : By prog 294 true 2 := ⟨isAgg294, sizeOf294⟩
theorem Be {α β : Sort _} {γ : α → β → Prop} : ∀ (x : α) (y : β), False → γ x y := fun _ _ h => h.elim
end Go.Sx
namespace Go.Sx
inductive SN where
 | atom | test | type | expr | part | param | sort | source | ctch | instr | template | dfn | global | key | rule | accum | mode | output | swap | charMap | use | sheet
 deriving DecidableEq
inductive Ty where
 | int | bool | str
 | list (e : Ty)
 | ptr (e : Ty)
 | st (s : SN)
 deriving DecidableEq
def SN.fields : SN → List Ty
 | .atom => [.int, .str]
 | .test => [.int, .str]
 | .type => [.int, .int, .st .test, .str]
 | .expr => [.int, .str, .str, .int, .st .atom, .int, .st .test, .st .type, .list .str, .list (.st .expr)]
 | .part => [.str, .bool, .st .expr]
 | .param => [.str, .st .type, .bool, .st .expr, .list (.st .instr)]
 | .sort => [.st .expr, .bool, .bool, .str]
 | .source => [.st .expr, .list (.st .sort)]
 | .ctch => [.list .int, .list (.st .instr)]
 | .instr => [.int, .str, .str, .list (.st .part), .list (.st .part), .bool, .st .expr, .st .expr, .st .type, .list (.st .sort), .list (.st .param), .list (.st .source), .list (.st .ctch),
  .list (.st .instr), .list (.st .instr), .int, .int]
 | .template => [.list (.st .expr), .str, .list .str, .bool, .str, .list (.st .param), .list (.st .instr), .str, .int, .int, .int, .int]
 | .dfn => [.str, .list (.st .param), .st .type, .st .expr, .str, .int, .int, .int]
 | .global => [.str, .bool, .st .type, .bool, .st .expr, .list (.st .instr), .str, .int, .int, .int]
 | .key => [.str, .list (.st .expr), .st .expr]
 | .rule => [.list (.st .expr), .bool, .st .expr]
 | .accum => [.str, .st .expr, .list (.st .rule)]
 | .mode => [.str, .str, .bool, .bool, .str, .int]
 | .output => [.str, .str, .bool, .bool, .list .str]
 | .swap => [.int, .str]
 | .charMap => [.str, .list (.st .swap)]
 | .use => [.str, .ptr (.st .sheet), .int, .int]
 | .sheet => [.str, .list (.st .use), .list (.st .template), .list (.st .dfn), .list (.st .global), .list (.st .key), .list (.st .accum), .list (.st .mode), .list (.st .output), .list (.st .charMap)]
def SN.size : SN → Nat
 | .atom => 2 | .test => 2 | .type => 5 | .expr => 16 | .part => 18 | .param => 24 | .sort => 19 | .source => 17 | .ctch => 2 | .instr => 51 | .template => 12 | .dfn => 27 | .global => 29
 | .key => 18 | .rule => 18 | .accum => 18 | .mode => 6 | .output => 5 | .swap => 2 | .charMap => 2 | .use => 4 | .sheet => 10
def Ty.size : Ty → Nat
 | .st s => s.size
 | _ => 1
def SN.deep : SN → Bool
 | .expr | .instr | .sheet => true
 | _ => false
inductive T where
 | int (n : Int)
 | bool (b : Bool)
 | str (s : ByteArray)
 | list (l : List T)
 | nil
 | ptr (t : T)
 | agg (s : SN) (l : List T)
def Bu (n : Int) : Prop := -9223372036854775808 ≤ n ∧ n ≤ 9223372036854775807
def Oq (cs : List Value) : Prop := ∃ g cap, cs = [Value.slice g 0 cap]
theorem Jc {g : Option Addr} {cap : Nat} : Oq [Value.slice g 0 cap] = True := eq_true ⟨g, cap, rfl⟩
mutual
def Rep (w : World) (S : Nat → Prop) : T → Ty → List Value → Prop
 | .int n, .int, cs => cs = [.int .i64 n] ∧ Bu n
 | .bool b, .bool, cs => cs = [.bool b]
 | .str s, .str, cs => cs = [.string s] ∧ s.size ≤ maxLen
 | .list l, .list e, cs => (Oq cs ∧ l = []) ∨ ∃ b o cap, cs = [.slice (some ⟨b, o, none⟩) l.length cap] ∧ S b ∧ b < w.heap.size ∧ l.length ≤ cap ∧ cap ≤ maxLen ∧ RepL w S e l b o
 | .nil, .ptr _, cs => cs = [.pointer none]
 | .ptr t, .ptr e, cs => ∃ b o ds, cs = [.pointer (some ⟨b, o, none⟩)] ∧ S b ∧ b < w.heap.size ∧ At w b o ds ∧ ds.length = e.size ∧ Rep w S t e ds
 | .agg s' l, .st s, cs => s' = s ∧ cs.length = s.size ∧ RepF w S l s.fields 0 cs
 | _, _, _ => False
def RepL (w : World) (S : Nat → Prop) (e : Ty) : List T → Nat → Nat → Prop
 | [], _, _ => True
 | t :: l, b, o => (∃ ds, At w b o ds ∧ ds.length = e.size ∧ Rep w S t e ds) ∧ RepL w S e l b (o + e.size)
def RepF (w : World) (S : Nat → Prop) : List T → List Ty → Nat → List Value → Prop
 | [], [], _, _ => True
 | t :: l, f :: fs, o, cs => Rep w S t f ((cs.drop o).take f.size) ∧ RepF w S l fs (o + f.size) cs
 | _, _, _, _ => False
end
section
variable {w : World} {S : Nat → Prop}
theorem Rep.int_inv {t : T} {cs : List Value} (h : Rep w S t .int cs) : ∃ n, t = .int n ∧ cs = [.int .i64 n] ∧ Bu n := by
 cases t <;> simp only [Rep] at h
 exact ⟨_, rfl, h.1, h.2⟩
theorem Rep.bool_inv {t : T} {cs : List Value} (h : Rep w S t .bool cs) : ∃ b, t = .bool b ∧ cs = [.bool b] := by
 cases t <;> simp only [Rep] at h
 exact ⟨_, rfl, h⟩
theorem Rep.str_inv {t : T} {cs : List Value} (h : Rep w S t .str cs) : ∃ s, t = .str s ∧ cs = [.string s] ∧ s.size ≤ maxLen := by
 cases t <;> simp only [Rep] at h
 exact ⟨_, rfl, h.1, h.2⟩
theorem Rep.list_inv {t : T} {e : Ty} {cs : List Value} (h : Rep w S t (.list e) cs) : ∃ l, t = .list l ∧
 ((Oq cs ∧ l = []) ∨ ∃ b o cap, cs = [.slice (some ⟨b, o, none⟩) l.length cap] ∧ S b ∧ b < w.heap.size ∧ l.length ≤ cap ∧ cap ≤ maxLen ∧ RepL w S e l b o) := by
 cases t <;> simp only [Rep] at h
 exact ⟨_, rfl, h⟩
theorem Rep.ptr_inv {t : T} {e : Ty} {cs : List Value} (h : Rep w S t (.ptr e) cs) : (t = .nil ∧ cs = [.pointer none]) ∨
 ∃ t' b o ds, t = .ptr t' ∧ cs = [.pointer (some ⟨b, o, none⟩)] ∧ S b ∧ b < w.heap.size ∧ At w b o ds ∧ ds.length = e.size ∧ Rep w S t' e ds := by
 cases t <;> simp only [Rep] at h
 · exact .inl ⟨rfl, h⟩
 · obtain ⟨b, o, ds, h⟩ := h
   exact .inr ⟨_, b, o, ds, rfl, h⟩
theorem Rep.st_inv {t : T} {s : SN} {cs : List Value} (h : Rep w S t (.st s) cs) : ∃ l, t = .agg s l ∧ cs.length = s.size ∧ RepF w S l s.fields 0 cs := by
 cases t <;> simp only [Rep] at h
 obtain ⟨rfl, h⟩ := h
 exact ⟨_, rfl, h⟩
theorem RepF.cons_inv {l : List T} {f : Ty} {fs : List Ty} {o : Nat} {cs : List Value} (h : RepF w S l (f :: fs) o cs) :
 ∃ t l', l = t :: l' ∧ Rep w S t f ((cs.drop o).take f.size) ∧ RepF w S l' fs (o + f.size) cs := by
 cases l <;> simp only [RepF] at h
 exact ⟨_, _, rfl, h⟩
theorem RepF.nil_inv {l : List T} {o : Nat} {cs : List Value} (h : RepF w S l [] o cs) : l = [] := by
 cases l <;> simp only [RepF] at h
 rfl
theorem RepL.get {e : Ty} : ∀ {l : List T} {b o : Nat}, RepL w S e l b o → ∀ {i : Nat} {t : T}, l[i]? = some t → ∃ ds, At w b (o + i * e.size) ds ∧ ds.length = e.size ∧ Rep w S t e ds
 | t :: l, b, o, h, 0, u, hi => by
  simp only [RepL] at h
  simp at hi
  subst hi
  simpa using h.1
 | t :: l, b, o, h, i + 1, u, hi => by
  simp only [RepL] at h
  simp at hi
  have := RepL.get h.2 hi
  rwa [show o + e.size + i * e.size = o + (i + 1) * e.size from by rw [Nat.add_mul]; omega] at this
end
theorem At.agree {w w' : World} {b o : Nat} {cs : List Value} (h : w'.heap[b]? = w.heap[b]?) (k : At w b o cs) : At w' b o cs := by
 intro j v hj
 rw [World.cell?_of_block (w := w) h]
 exact k j v hj
mutual
theorem Rep.agree {w w' : World} {S S' : Nat → Prop} (hS : ∀ b, S b → b < w.heap.size → S' b ∧ b < w'.heap.size ∧ w'.heap[b]? = w.heap[b]?) : ∀ (t : T) (f : Ty) (cs : List Value), Rep w S t f cs → Rep w' S' t f cs
 | .int n, f, cs, h => by cases f <;> simp only [Rep] at h ⊢; exact h
 | .bool n, f, cs, h => by cases f <;> simp only [Rep] at h ⊢; exact h
 | .str n, f, cs, h => by cases f <;> simp only [Rep] at h ⊢; exact h
 | .nil, f, cs, h => by cases f <;> simp only [Rep] at h ⊢; exact h
 | .list l, f, cs, h => by
  cases f <;> simp only [Rep] at h ⊢
  rcases h with h | ⟨b, o, cap, h1, h2, h3, h4, h5, h6⟩
  · exact .inl h
  · have := hS b h2 h3
    exact .inr ⟨b, o, cap, h1, this.1, this.2.1, h4, h5, RepL.agree hS _ l b o this.2.2 h6⟩
 | .ptr t, f, cs, h => by
  cases f <;> simp only [Rep] at h ⊢
  obtain ⟨b, o, ds, h1, h2, h3, h4, h5, h6⟩ := h
  have := hS b h2 h3
  exact ⟨b, o, ds, h1, this.1, this.2.1, h4.agree this.2.2, h5, Rep.agree hS t _ ds h6⟩
 | .agg s l, f, cs, h => by
  cases f <;> simp only [Rep] at h ⊢
  exact ⟨h.1, h.2.1, RepF.agree hS l _ _ cs h.2.2⟩
theorem RepL.agree {w w' : World} {S S' : Nat → Prop} (hS : ∀ b, S b → b < w.heap.size → S' b ∧ b < w'.heap.size ∧ w'.heap[b]? = w.heap[b]?) (e : Ty) : ∀ (l : List T) (b o : Nat), w'.heap[b]? = w.heap[b]? → RepL w S e l b o → RepL w' S' e l b o
 | [], _, _, _, _ => by simp only [RepL]
 | t :: l, b, o, hb, h => by
  simp only [RepL] at h ⊢
  obtain ⟨⟨ds, h1, h2, h3⟩, h4⟩ := h
  exact ⟨⟨ds, h1.agree hb, h2, Rep.agree hS t e ds h3⟩, RepL.agree hS e l b _ hb h4⟩
theorem RepF.agree {w w' : World} {S S' : Nat → Prop} (hS : ∀ b, S b → b < w.heap.size → S' b ∧ b < w'.heap.size ∧ w'.heap[b]? = w.heap[b]?) : ∀ (l : List T) (fs : List Ty) (o : Nat) (cs : List Value), RepF w S l fs o cs → RepF w' S' l fs o cs
 | [], fs, o, cs, h => by cases fs <;> simp only [RepF] at h ⊢
 | t :: l, fs, o, cs, h => by
  cases fs <;> simp only [RepF] at h ⊢
  exact ⟨Rep.agree hS t _ _ h.1, RepF.agree hS l _ _ cs h.2⟩
end
theorem K6 (cs : List Value) (o n i k : Nat) (h : i + k ≤ n) : (((cs.drop o).take n).drop i).take k = (cs.drop (o + i)).take k := by
 rw [List.drop_take, List.take_take, List.drop_drop, Nat.min_eq_left (by omega)]
def num (n : Nat) : List UInt8 := if n < 128 then [n.toUInt8] else (n % 128 + 128).toUInt8 :: num (n / 128)
decreasing_by omega
def GU (n : Int) : Nat := (if 0 ≤ n then 2 * n.toNat else 2 * (-(n + 1)).toNat + 1) % 18446744073709551616
structure WS where
 b : List UInt8
 tab : List ByteArray
 nest : Nat
def WS.num (s : WS) (n : Nat) : WS := { s with b := s.b ++ Sx.num n }
def WS.str (s : WS) (x : ByteArray) : WS :=
 match s.tab.findIdx? (fun y => decide (y = x)) with
 | some i => s.num i
 | none => { s with tab := s.tab ++ [x] }.num s.tab.length
mutual
def enc (most long : Nat) : T → WS → Option WS
 | .int n, s => some (s.num (GU n))
 | .bool b, s => some (s.num b.toNat)
 | .str x, s => some (s.str x)
 | .list l, s => BU most long l (s.num l.length)
 | .nil, s => some (s.num 0)
 | .ptr t, s => enc most long t (s.num 1)
 | .agg sn l, s =>
  match sn.deep with
  | true => if most < s.nest + 1 ∨ long < s.b.length then none else (BU most long l { s with nest := s.nest + 1 }).map fun s' => { s' with nest := s.nest }
  | false => BU most long l s
def BU (most long : Nat) : List T → WS → Option WS
 | [], s => some s
 | t :: l, s => (enc most long t s).bind (BU most long l)
end
mutual
def T.wt : T → Nat
 | .str x => x.size + 1
 | .list l => BA l + 1
 | .ptr t => t.wt + 1
 | .agg _ l => BA l + 1
 | _ => 1
def BA : List T → Nat
 | [] => 0
 | t :: l => t.wt + BA l
end
def bv (b : UInt8) : Value := .int .u8 b.toNat
end Go.Sx
namespace Go.Sx
open Go.Proofs Go.Proofs.Tryz
def MapTab (w : World) (bm : Nat) (tab : List ByteArray) : Prop :=
 ∃ es clock, w.heap[bm]? = some (.map es clock) ∧ es.toList.map (·.key) = tab.map Value.string ∧ es.toList.map (·.val) = (List.range tab.length).map fun (i : Nat) => Value.int .i64 (i : Int)
def Bk (v : Value) (b : Nat) : Prop := v.ownBlock = some b
structure QW (p most long : Nat) (s : WS) (O : Nat → Prop) (w : World) (vb vt : Value) (bm : Nat) : Prop where
 blk : Blk w p [vb, vt, .map (some bm), .int .i64 s.nest, .int .i64 most, .int .i64 long] 185
 rb : w.ownsRow 0 5 1 vb s.b.length (s.b.map bv)
 rt : w.ownsRow 0 9 1 vt s.tab.length (s.tab.map Value.string)
 mp : MapTab w bm s.tab
 op : O p
 om : O bm
 ob : ∀ k, Bk vb k → O k ∧ k ≠ p ∧ k ≠ bm ∧ ¬ Bk vt k
 ot : ∀ k, Bk vt k → O k ∧ k ≠ p ∧ k ≠ bm
 pm : p ≠ bm
structure WSt (w0 : World) (S : Nat → Prop) (p most long : Nat) (s : WS) (O : Nat → Prop) (w : World) : Prop where
 inp : ∀ b, S b → b < w0.heap.size → ¬ O b ∧ w.heap[b]? = w0.heap[b]?
 lt : ∀ b, O b → b < w.heap.size
 base : w0.heap.size ≤ w.heap.size
 mem : ∃ vb vt bm, QW p most long s O w vb vt bm
 tabs : ∀ x ∈ s.tab, x.size ≤ maxLen
 nodup : s.tab.Nodup
theorem EZ {v v' : Value} {w w' : World} (h : w.grownBy w' v.ownBlock) (hv : v'.ownBlock = v.ownBlock ∨ v'.ownBlock = some w.heap.size) : Fr (Bk v) w (Bk v') w' := by
 refine ⟨h.os, h.tape, h.output, h.size, fun b hb hn => h.block b hb (fun e => hn e.symm), fun b hb => ?_⟩
 rcases hv with hv | hv
 · exact .inl (hv.symm.trans hb)
 · have : some w.heap.size = some b := hv.symm.trans hb
   exact .inr (by cases this; exact Nat.le_refl _)
theorem AP {w w' : World} {e n size : Nat} {v : Value} {xs : List Value} (h : w.ownsRow 0 e size v n xs) (hb : ∀ b, Bk v b → w'.heap[b]? = w.heap[b]?) : w'.ownsRow 0 e size v n xs := by
 refine ⟨h.1, ?_⟩
 rcases h.2 with h2 | ⟨g, cap, cur, hv, hg, hh, r⟩
 · exact .inl h2
 · exact .inr ⟨g, cap, cur, hv, hg, by rw [hb g (by simp [Bk, hv, Value.ownBlock])]; exact hh, r⟩
theorem AT {w : World} {e n size : Nat} {v : Value} {xs : List Value} (h : w.ownsRow 0 e size v n xs) {b : Nat} (hb : Bk v b) : b < w.heap.size := (h.lt b hb).2
theorem MapTab.agree {w w' : World} {bm : Nat} {tab : List ByteArray} (h : MapTab w bm tab) (hb : w'.heap[bm]? = w.heap[bm]?) : MapTab w' bm tab := by
 obtain ⟨es, clock, h1, h2⟩ := h
 exact ⟨es, clock, hb.trans h1, h2⟩
section
variable {w0 : World} {S : Nat → Prop} {p most long : Nat} {s : WS} {O : Nat → Prop} {w : World}
theorem WSt.other (h : WSt w0 S p most long s O w) {U U' : Nat → Prop} {w' : World} (f : Fr U w U' w') (hu : ∀ b, U b → ¬ O b ∧ w0.heap.size ≤ b) : WSt w0 S p most long s O w' := by
 have hO : ∀ b, O b → w'.heap[b]? = w.heap[b]? := fun b hb => f.blk b (h.lt b hb) (fun hu' => (hu b hu').1 hb)
 refine ⟨fun b hb hl => ⟨(h.inp b hb hl).1, ?_⟩, fun b hb => Nat.lt_of_lt_of_le (h.lt b hb) f.size, Nat.le_trans h.base f.size, ?_, h.tabs, h.nodup⟩
 · rw [f.blk b (Nat.lt_of_lt_of_le hl h.base) (fun hu' => by have := (hu b hu').2; omega)]
   exact (h.inp b hb hl).2
 · obtain ⟨vb, vt, bm, m⟩ := h.mem
   exact ⟨vb, vt, bm, (hO p m.op).trans m.blk, AP m.rb (fun b hb => hO b (m.ob b hb).1), AP m.rt (fun b hb => hO b (m.ot b hb).1), m.mp.agree (hO bm m.om), m.op, m.om, m.ob, m.ot, m.pm⟩
theorem WSt.alloc (h : WSt w0 S p most long s O w) (o : Obj) : WSt w0 S p most long s O (w.alloc o) :=
 h.other (Fr.alloc (fun _ => False) w o) (fun _ hf => hf.elim)
theorem WSt.own_new (h : WSt w0 S p most long s O w) (cs : List Value) (t : TypeId) : Own O (w.alloc (.cells cs.toArray t)) w.heap.size cs t := Own.alloc h.lt
def grow (O : Nat → Prop) (w w' : World) (b : Nat) : Prop := O b ∨ (w.heap.size ≤ b ∧ b < w'.heap.size)
theorem Fr.grow {U U' : Nat → Prop} {w w' : World} (f : Fr U w U' w') (hu : ∀ b, U b → O b) : Fr O w (grow O w w') w' :=
 ⟨f.os, f.tape, f.output, f.size, fun b hb hn => f.blk b hb (fun h => hn (hu b h)), fun _ hb => hb.elim .inl (fun h => .inr h.1)⟩
theorem Hj (a b : Value) (cs : List Value) : Ch (a :: cs) 0 [b] = b :: cs := by simp [Ch]
theorem WSt.put (h : WSt w0 S p most long s O w) : ∃ vb, w.cell? ⟨p, 0, none⟩ = some vb ∧ w.ownsRow 0 5 1 vb s.b.length (s.b.map bv) ∧
 ∀ vb' w' n, Fr (Bk vb) w (Bk vb') w' → w'.ownsRow 0 5 1 vb' (s.b ++ num n).length ((s.b ++ num n).map bv) →
  ∃ w'' O', (storeVar 22 ⟨p, 0, none⟩ vb').run prog w' = .ok () w'' ∧ Fr O w O' w'' ∧ WSt w0 S p most long (s.num n) O' w'' := by
 obtain ⟨vb, vt, bm, m⟩ := h.mem
 refine ⟨vb, by rw [m.blk.cell]; rfl, m.rb, ?_⟩
 intro vb' w' n f r
 have hp : p < w.heap.size := h.lt p m.op
 have hbp : w'.heap[p]? = w.heap[p]? := f.blk p hp (fun ho => (m.ob p ho).2.1 rfl)
 have hblk : Blk w' p [vb, vt, .map (some bm), .int .i64 s.nest, .int .i64 most, .int .i64 long] 185 := hbp.trans m.blk
 have hne : ∀ k, Bk vb' k → k ≠ p ∧ k ≠ bm ∧ ¬ Bk vt k := by
  intro k hk
  rcases f.own k hk with h1 | h1
  · exact ⟨(m.ob k h1).2.1, (m.ob k h1).2.2.1, (m.ob k h1).2.2.2⟩
  · refine ⟨by omega, ?_, ?_⟩
    · have := h.lt bm m.om; omega
    · intro ht; have := AT m.rt ht; omega
 have hvb : vb'.cells = [vb'].toArray ∧ vb'.oneCell' = true := by
  rcases r.2 with ⟨rfl, _⟩ | ⟨g, cap, cur, rfl, _⟩ <;> exact ⟨rfl, rfl⟩
 have hst := BR (P := prog) (w := w') (t := 22) (n := 1) (agg := false) (b := p) (o := 0) (v := vb') Pp hvb.1 rfl (by simpa using hvb.2) hblk (by simp)
 rw [Hj] at hst
 have f2 : Fr O w (grow O w w') w' := f.grow (fun b hb => (m.ob b hb).1)
 have f3 : Fr (grow O w w') w' (grow O w w') (w'.setRow p [vb', vt, .map (some bm), .int .i64 s.nest, .int .i64 most, .int .i64 long].toArray) := Fr.setRow _ (.inl m.op)
 have hoth : ∀ b, b ≠ p → (w'.setRow p [vb', vt, .map (some bm), .int .i64 s.nest, .int .i64 most, .int .i64 long].toArray).heap[b]? = w'.heap[b]? := fun b hb => setRow_other w' p b _ hb
 refine ⟨_, _, hst, f2.trans f3, ?_, ?_, ?_, ?_, h.tabs, h.nodup⟩
 · intro b hb hl
   have hi := h.inp b hb hl
   have hbl : b < w.heap.size := Nat.lt_of_lt_of_le hl h.base
   refine ⟨fun ho => ho.elim hi.1 (fun hg => by omega), ?_⟩
   rw [hoth b (fun e => hi.1 (e ▸ m.op)), f.blk b hbl (fun ho => hi.1 (m.ob b ho).1)]
   exact hi.2
 · intro b hb
   simp only [BB]
   exact hb.elim (fun ho => Nat.lt_of_lt_of_le (h.lt b ho) f.size) (fun hg => hg.2)
 · simp only [BB]
   exact Nat.le_trans h.base f.size
 · have hvt : ∀ b, Bk vt b → w'.heap[b]? = w.heap[b]? := fun b hb => f.blk b (AT m.rt hb) (fun ho => (m.ob b ho).2.2.2 hb)
   have hbm : w'.heap[bm]? = w.heap[bm]? := f.blk bm (h.lt bm m.om) (fun ho => (m.ob bm ho).2.2.1 rfl)
   refine ⟨vb', vt, bm, hblk.setRow _, AP r (fun b hb => hoth b (hne b hb).1), AP m.rt (fun b hb => (hoth b (m.ot b hb).2.1).trans (hvt b hb)), m.mp.agree ((hoth bm (fun e => m.pm e.symm)).trans hbm), .inl m.op, .inl m.om, ?_, ?_, m.pm⟩
   · intro k hk
     refine ⟨?_, (hne k hk).1, (hne k hk).2.1, (hne k hk).2.2⟩
     rcases f.own k hk with h1 | h1
     · exact .inl (m.ob k h1).1
     · exact .inr ⟨h1, AT r hk⟩
   · intro k hk
     exact ⟨.inl (m.ot k hk).1, (m.ot k hk).2⟩
end
end Go.Sx
namespace Go.Sx
section
variable {P : Program} {w : World}
theorem B4 {n : Int} (h : Bu n) : IntKind.i64.wrap n = n := by
 unfold Bu at h
 simp only [IntKind.wrap, IntKind.bits, IntKind.signed]
 simp only [Bool.true_and]
 by_cases hg : n % 2 ^ 64 ≥ (2 ^ (64 - 1) : Int)
 · rw [if_pos (by simpa using hg)]; omega
 · rw [if_neg (by simpa using hg)]; omega
theorem Bz {n : Int} (h0 : 0 ≤ n) (h : n < 18446744073709551616) : IntKind.u64.wrap n = n := by
 simp only [IntKind.wrap, IntKind.bits, IntKind.signed]
 simp only [Bool.false_and, Bool.false_eq_true, if_false]
 omega
theorem I8 {n : Int} (h0 : 0 ≤ n) (h : n < 4294967296) : IntKind.u32.wrap n = n := by
 simp only [IntKind.wrap, IntKind.bits, IntKind.signed]
 simp only [Bool.false_and, Bool.false_eq_true, if_false]
 omega
theorem HJ (n : Int) : IntKind.u8.wrap n = n % 256 := by
 simp only [IntKind.wrap, IntKind.bits, IntKind.signed]
 simp only [Bool.false_and, Bool.false_eq_true, if_false]
 omega
theorem Bv {s t : TypeId} {ds : TypeDesc} {k k' : IntKind} {n : Int} (hs : ∀ w, (underlying s).run P w = .ok ds w) (ht : ∀ w, (underlying t).run P w = .ok (.int k) w) :
 (convert s t (.int k' n)).run P w = .ok (.int k (k.wrap n)) w := by
 cases ds <;> simp [convert, hs, ht, Conv.intToInt]
theorem CT {t e : TypeId} {z v : Value} (ht : P.underlying t = some (.slice e)) (he : By P e false 1) (hz : ∀ w, (zeroValue e).run P w = .ok z w) (hz1 : z.cells.size = 1) (hv : v.cells = #[v]) :
 (Instr.buildSlice t 1 #[(0, v)]).run P w = .ok (.slice (some ⟨w.heap.size, 0, none⟩) 1 1) (w.alloc (.cells [v].toArray e)) := by
 obtain ⟨z0, hz0⟩ : ∃ z0, z.cells = #[z0] := Array.size_eq_one_iff.mp hz1
 have hr : Array.range 1 = #[0] := rfl
 simp [Instr.buildSlice, run_underlying ht, he.size, hz, hz0, Instr.fill, hv, newRow, hr]
theorem IJ {u e : TypeId} {vs : List Value} {n c b : Nat} (hu : P.underlying u = some (.slice e)) (hb : Blk w b vs e) (hn : vs.length = n) (h1 : ∀ x ∈ vs, x.oneCell' = true) :
 Src P 1 u (.slice (some ⟨b, 0, none⟩) n c) n vs w :=
 Src.ofSlice w hu _ _ _ vs (by omega) (fun j v hj => by rw [Addr.add_lit, hb.cell]; simpa using hj) h1
theorem P_ (n : Nat) (h : n < 256) : n ||| 128 = n % 128 + 128 := by
 have key : ∀ r, r < 128 → 128 ||| r = 128 + r := fun r hr => by
  have := Nat.two_pow_add_eq_or_of_lt (i := 7) hr 1
  simpa using this.symm
 by_cases h1 : n < 128
 · rw [Nat.or_comm, key n h1]; omega
 · obtain ⟨r, rfl⟩ : ∃ r, n = 128 + r := ⟨n - 128, by omega⟩
   rw [← key r (by omega), Nat.or_comm, ← Nat.or_assoc, Nat.or_self, key r (by omega)]; omega
theorem Mu (n : Nat) (h : n < 256) : (Op.intBits .or .u8 n 128).run P w = .ok (.int .u8 ((n % 128 + 128 : Nat) : Int)) w := by
 have h1 : (BitVec.ofInt 8 (n : Int) ||| BitVec.ofInt 8 128).toNat = n % 128 + 128 := by
  simp only [BitVec.toNat_or, BitVec.toNat_ofInt]
  rw [← P_ n h]
  congr 1
  omega
 show Result.ok (Value.int .u8 (IntKind.u8.wrap ((BitVec.ofInt 8 (n : Int) ||| BitVec.ofInt 8 128).toNat : Nat))) w = _
 rw [h1, HJ]
 congr 2
 omega
end
theorem Cu {P : Program} {w : World} {t : TypeId} {k : IntKind} {a b : Int} {c : Bool} (h : c = decide (b < a)) : (binOp .gtr t (.int k a) (.int k b)).run P w = .ok (.bool c) w := by
 subst h; cases k <;> rfl
theorem Bh {P : Program} {w : World} {t : TypeId} {k : IntKind} {a b : Int} {c : Bool} (h : c = decide (a < b)) : (binOp .lss t (.int k a) (.int k b)).run P w = .ok (.bool c) w := by
 subst h; cases k <;> rfl
theorem JJ {P : Program} {w : World} {t : TypeId} {k : IntKind} {a b : Int} {c : Bool} (h : c = decide (b ≤ a)) : (binOp .geq t (.int k a) (.int k b)).run P w = .ok (.bool c) w := by
 subst h; cases k <;> rfl
theorem Ej {P : Program} {w : World} {t : TypeId} {k : IntKind} {a b : Int} {c : Bool} (h : c = decide (a = b)) : (binOp .eql t (.int k a) (.int k b)).run P w = .ok (.bool c) w := by
 subst h; cases k <;> rfl
theorem BO {P : Program} {w : World} {t : TypeId} {k : IntKind} {a b : Int} {c : Bool} (h : c = !decide (a = b)) : (binOp .neq t (.int k a) (.int k b)).run P w = .ok (.bool c) w := by
 subst h; cases k <;> rfl
theorem Lc {P : Program} {w : World} {t : TypeId} {k k' : IntKind} {n d : Nat} {c : Int} (hc : c = (d : Int)) (hd : Nat.ble d k.bits = true) :
 (binOp .shr t (.int k (n : Int)) (.int k' c)).run P w = .ok (.int k ((n / 2 ^ d : Nat) : Int)) w := by
 subst hc
 have hd' := Nat.le_of_ble_eq_true hd
 have h1 : ¬ ((d : Int) < 0) := by omega
 have h2 : Int.fdiv (n : Int) (2 ^ d) = ((n / 2 ^ d : Nat) : Int) := by
  rw [Int.fdiv_eq_ediv_of_nonneg _ (Int.le_of_lt (Int.pow_pos (by decide)))]
  rw [Int.natCast_ediv, Int.natCast_pow]; rfl
 show (Op.shift .shr k n k' d).run P w = _
 simp only [Op.shift, h1, if_false, Int.toNat_natCast, Nat.min_eq_left hd', h2]
 rfl
theorem DO {n : Nat} (h : n < 128) : num n = [n.toUInt8] := by rw [num, if_pos h]
theorem Hq {n : Nat} (h : 128 ≤ n) : num n = (n % 128 + 128).toUInt8 :: num (n / 128) := by rw [num, if_neg (by omega)]
theorem DT (n : Nat) : 0 < (num n).length := by
 rw [num]; split <;> simp
theorem MY : ∀ (k n : Nat), n < 128 ^ (k + 1) → (num n).length ≤ k + 1
 | 0, n, h => by rw [DO (by simpa using h)]; simp
 | k + 1, n, h => by
  by_cases h1 : n < 128
  · rw [DO h1]; simp
  · rw [Hq (by omega)]
    have := MY k (n / 128) (by rw [Nat.div_lt_iff_lt_mul (by omega)]; rw [Nat.pow_succ] at h; exact h)
    simp; omega
theorem B_ {n : Nat} (h : n < 18446744073709551616) : (num n).length ≤ 10 := MY 9 n (by omega)
theorem Fo (n : Nat) (h : n < 256) : bv n.toUInt8 = .int .u8 (n : Int) := by
 have : n.toUInt8.toNat = n := by simp [Nat.toUInt8, Nat.mod_eq_of_lt h]
 simp only [bv, this]
end Go.Sx
namespace Go.Sx
open Go.Proofs Go.Proofs.Tryz
theorem J6 {P : Program} {t : TypeId} {x : Option Value × Nat × Nat} (h : (P.info? t).map (fun i => (i.zero, i.size, i.bytes)) = some x) : ∃ i, P.info? t = some i ∧ i.zero = x.1 ∧ i.size = x.2.1 ∧ i.bytes = x.2.2 := by
 cases hi : P.info? t with
 | none => rw [hi] at h; cases h
 | some i => rw [hi] at h; cases h; exact ⟨i, rfl, rfl, rfl, rfl⟩
theorem NW : (prog.info? 5).map (fun i => (i.zero, i.size, i.bytes)) = some (some (.int .u8 0), 1, 1) := by kernel_rfl
theorem Qu : (prog.info? 9).map (fun i => (i.zero, i.size, i.bytes)) = some (some (.string ⟨#[]⟩), 1, 16) := by kernel_rfl
theorem Kw : By prog 5 false 1 := RX
theorem MM : By prog 9 false 1 := Cc
theorem Hm : By prog 3 false 1 := Cj
theorem Ee : By prog 4 false 1 := Dp
theorem CG : By prog 22 false 1 := Pp
theorem Ks (l : List UInt8) : ∀ u ∈ l.map bv, u.oneCell' = true := by
 intro u hu
 obtain ⟨x, _, rfl⟩ := List.mem_map.1 hu
 rfl
theorem BC {w : World} {v x : Value} {xs ys : List UInt8} {u ty : TypeId} (r : w.ownsRow 0 5 1 v xs.length (xs.map bv)) (hs : Src prog 1 u x ys.length (ys.map bv) w)
 (hl : xs.length + ys.length ≤ 2 ^ 46) : ∃ v' w', (Builtin.append_ #[22, u] ty #[v, x]).run prog w = .ok v' w' ∧
  w'.ownsRow 0 5 1 v' (xs ++ ys).length ((xs ++ ys).map bv) ∧ Fr (Bk v) w (Bk v') w' := by
 obtain ⟨i, hi, hz, hs1, hb⟩ := J6 NW
 obtain ⟨v', w', h1, h2, h3, h4, _⟩ := GB (P := prog) (ty := ty) (e := 5) (bytes := 1) (z := .int .u8 0) underlying22 hi hz hs1 hb rfl r hs (by simp only [maxLen]; omega) (by omega)
 exact ⟨v', w', h1, by simpa using h2, EZ h3 h4⟩
theorem GM {w : World} {k : IntKind} {n : Int} : (convert 164 5 (.int k n)).run prog w = .ok (.int .u8 (n % 256)) w := by
 rw [← HJ]; exact Bv runUnderlying164 runUnderlying5
theorem Hb {w : World} {v : Value} (hv : v.cells = #[v]) : (Instr.buildSlice 22 1 #[(0, v)]).run prog w = .ok (.slice (some ⟨w.heap.size, 0, none⟩) 1 1) (w.alloc (.cells [v].toArray 5)) :=
 CT underlying22 Kw zeroValue5 rfl hv
theorem DC {w : World} {e n size : Nat} {v : Value} {xs : List Value} (h : w.ownsRow 0 e size v n xs) (o : Obj) : (w.alloc o).ownsRow 0 e size v n xs :=
 AP h (fun b hb => heap_alloc_old w o b (AT h hb))
theorem Jf (n : Nat) : ((n : Int) % 256) = ((n % 256 : Nat) : Int) := by omega
def Row (w : World) (v : Value) (xs : List UInt8) : Prop :=
 w.ownsRow 0 5 1 v xs.length (xs.map bv) ∨ ∃ b, v = .slice (some ⟨b, 0, none⟩) xs.length xs.length ∧ b < w.heap.size ∧ At w b 0 (xs.map bv)
theorem Row.agree {w w' : World} {v : Value} {xs : List UInt8} (h : Row w v xs) (hs : w.heap.size ≤ w'.heap.size) (hb : ∀ b, Bk v b → w'.heap[b]? = w.heap[b]?) : Row w' v xs := by
 rcases h with h | ⟨b, rfl, h1, h2⟩
 · exact .inl (AP h hb)
 · exact .inr ⟨b, rfl, Nat.lt_of_lt_of_le h1 hs, h2.agree (hb b V)⟩
theorem Row.lt {w : World} {v : Value} {xs : List UInt8} (h : Row w v xs) {b : Nat} (hb : Bk v b) : b < w.heap.size := by
 rcases h with h | ⟨b', rfl, h1, _⟩
 · exact AT h hb
 · have : b' = b := by simpa [Bk, Value.ownBlock] using hb
   omega
theorem Row.alloc {w : World} {v : Value} {xs : List UInt8} (h : Row w v xs) (o : Obj) : Row (w.alloc o) v xs := h.agree (by simp) (fun b hb => heap_alloc_old w o b (h.lt hb))
theorem Ir {w : World} {v x : Value} {xs ys : List UInt8} {u ty : TypeId} (r : Row w v xs) (hs : Src prog 1 u x ys.length (ys.map bv) w)
 (hl : xs.length + ys.length ≤ 2 ^ 46) (hy : 0 < ys.length) : ∃ v' w', (Builtin.append_ #[22, u] ty #[v, x]).run prog w = .ok v' w' ∧
  w'.ownsRow 0 5 1 v' (xs ++ ys).length ((xs ++ ys).map bv) ∧ Fr (Bk v) w (Bk v') w' := by
 rcases r with r | ⟨b, rfl, hb, ha⟩
 · exact BC r hs hl
 · obtain ⟨i, hi, hz, hs1, hby⟩ := J6 NW
   have holds : ∀ j u, (xs.map bv)[j]? = some u → w.drew.cell? ((⟨b, 0, none⟩ : Addr).add j) = some u := fun j u hj => by rw [Addr.add_lit]; exact ha j u hj
   have hlen : (xs.map bv).length = xs.length * i.size := by rw [hs1]; simp
   have hr := run_append_grow_src (P := prog) w 22 u ty 5 i (.int .u8 0) underlying22 hi hz (some ⟨b, 0, none⟩) xs.length xs.length (xs.map bv) (run_firstCells_some w.drew i.size xs.length ⟨b, 0, none⟩ xs.length xs.length (xs.map bv) hlen holds) x ys.length (ys.map bv) (by rw [hs1]; exact hs)
    (by omega) (by omega) (growslice_fits (by omega) (by rw [show i.bytes = 1 from hby]; omega))
   have hm : xs.length + ys.length ≤ maxLen := by simp only [maxLen]; omega
   have hge : xs.length + ys.length ≤ grownCap w (xs.length + ys.length) xs.length 5 := grownCap_ge w (xs.length + ys.length) xs.length 5
   have hcm := grownCap_le_maxLen w (xs.length + ys.length) xs.length 5 hm
   refine ⟨_, _, hr, ⟨by simp, .inr ⟨w.heap.size, _, _, by rw [List.length_append], Nat.zero_le _, heap_alloc_new w.drew _, by rw [List.length_append]; exact hge, hcm, ?_, ?_⟩⟩, ?_⟩
   · have hz1 : (Value.int .u8 0).cells.size = 1 := rfl
     simp only [Array.size_append, List.size_toArray, size_zeroCells, List.length_append, List.length_map, hz1]
     omega
   · rw [Array.toList_append, List.map_append]
     have : (xs ++ ys).length * 1 = (xs.map bv ++ ys.map bv).length := by simp
     rw [this]; exact List.take_left
   · exact ⟨rfl, rfl, rfl, by simp, fun k hk _ => heap_alloc_old w.drew _ k hk, fun k hk => .inr (by
      have : w.heap.size = k := by simpa [Bk, Value.ownBlock] using hk
      omega)⟩
theorem Qs {w : World} {v : Value} {xs : List UInt8} {n : Nat} (r : Row w v xs) (hn : n < 18446744073709551616) (hl : xs.length + (num n).length ≤ 2 ^ 45) :
 Calls prog 97 [v, .int .u64 n].toArray w (Dq (fun v' w' => w'.ownsRow 0 5 1 v' (xs ++ num n).length ((xs ++ num n).map bv) ∧ Fr (Bk v) w (Bk v') w') (fun _ _ => False)) := by
 refine AB 20 func97 V V V ?_
 refine Af (Aa ?_)
 refine Ah V V (Ar [(0, v), (1, .int .u64 n)] ⟨V, V, trivial⟩ ?_)
 refine Af (A1 (AW (ι := Value × Nat × List UInt8 × World) (fun i => [(0, i.1), (1, .int .u64 i.2.1)])
  (fun i w' => w' = i.2.2.2 ∧ Row w' i.1 i.2.2.1 ∧ Fr (Bk v) w (Bk i.1) w' ∧ i.2.2.1 ++ num i.2.1 = xs ++ num n ∧ i.2.1 < 18446744073709551616) (fun i => i.2.1)
  (v, n, xs, w) ⟨V, V, trivial⟩ ⟨rfl, r, Fr.refl _ _, rfl, hn⟩ ?_))
 rintro ⟨v1, n1, xs1, _⟩ w1 ⟨rfl, r1, f1, e1, hn1⟩
 simp only at r1 f1 e1 hn1 ⊢
 have hlen : xs1.length + (num n1).length = xs.length + (num n).length := by rw [← List.length_append, e1, List.length_append]
 have hnp := DT n1
 refine Af (Af (Aa (Ac V V (Al V V V V (Ae ?_)))))
 refine AK V (fun ht => A_ fun a ha => Ad ?_) (fun hf => AQ fun a ha => Aq (Aq (A3 (Ad ?_))))
 · have hge : 128 ≤ n1 := by simp at ht; omega
   refine (Af (A1 (Aa (Ac V V (Ac V V (AJ V GM V ?_)))))) a ha
   rw [Jf]
   refine Al V V (Mu (n1 % 256) (by omega)) V ?_
   rw [show n1 % 256 % 128 + 128 = n1 % 128 + 128 by omega]
   refine A7 V (Hb V) V ?_
   obtain ⟨v2, w2, hr, r2, f2⟩ := Ir (w := w1.alloc (.cells [Value.int .u8 ((n1 % 128 + 128 : Nat) : Int)].toArray 5)) (ty := 22) (ys := [(n1 % 128 + 128).toUInt8]) (r1.alloc _)
    (IJ (n := 1) (c := 1) underlying22 (by rw [List.map_cons, Fo _ (by omega)]; exact AN) V (Ks _)) (by simp; omega) (by simp)
   refine AU V V hr V (Ah V V (A2 fun a ha => Az (Ad (Aa (Ac V V (Al V V (Lc (d := 7) V V) V (Ah V V (A2 fun a ha => Ad ?_)))) a ha))))
   refine ⟨(v2, n1 / 128, xs1 ++ [(n1 % 128 + 128).toUInt8], w2), ha.weak ⟨rfl, ?_, trivial⟩, ⟨rfl, .inl r2, ?_, ?_, ?_⟩, ?_⟩
   · rfl
   · exact f1.trans ((Fr.alloc _ _ _).trans f2)
   · rw [← e1, Hq hge]; simp
   · show n1 / 128 < _; omega
   · show n1 / 128 < n1; omega
 · have hlt : n1 < 128 := by simp at hf; omega
   refine (Af (Aa (Ac V V (Ac V V (AJ V GM V ?_))))) a ha
   rw [show ((n1 : Int) % 256) = (n1 : Int) by omega]
   refine A7 V (Hb V) V ?_
   obtain ⟨v2, w2, hr, r2, f2⟩ := Ir (w := w1.alloc (.cells [Value.int .u8 (n1 : Int)].toArray 5)) (ty := 22) (ys := [n1.toUInt8]) (r1.alloc _)
    (IJ (n := 1) (c := 1) underlying22 (by rw [List.map_cons, Fo _ (by omega)]; exact AN) V (Ks _)) (by simp; omega) (by simp)
   refine AU V V hr V (Ah V V (A2 fun a ha => Ad (AA (fun a ha => Au V ha V ⟨?_, f1.trans ((Fr.alloc _ _ _).trans f2)⟩) a ha)))
   rw [← e1, DO hlt]; exact r2
theorem JN {w : World} {v : Value} {xs : List UInt8} {n : Nat} (r : w.ownsRow 0 5 1 v xs.length (xs.map bv)) (hn : n < 18446744073709551616) (hl : xs.length + (num n).length ≤ 2 ^ 45) :
 Calls prog 97 [v, .int .u64 n].toArray w (Dq (fun v' w' => w'.ownsRow 0 5 1 v' (xs ++ num n).length ((xs ++ num n).map bv) ∧ Fr (Bk v) w (Bk v') w') (fun _ _ => False)) := Qs (.inl r) hn hl
end Go.Sx
namespace Go.Sx
open Go.Proofs Go.Proofs.Tryz
def WS.use (s : WS) : Nat := s.b.length + s.tab.length + s.nest
def CL : List PanicEntry := [{ v := .iface 89 (.agg #[]), recovered := false }]
def ptr (p : Nat) : Value := .pointer (some ⟨p, 0, none⟩)
def PE (w0 : World) (S : Nat → Prop) (p most long : Nat) (O : Nat → Prop) (w : World) (r : Option WS) (v : Value) (w' : World) : Prop :=
 v = .tuple #[] ∧ ∃ s' O', r = some s' ∧ Fr O w O' w' ∧ WSt w0 S p most long s' O' w'
def Mp (w0 : World) (S : Nat → Prop) (p most long : Nat) (O : Nat → Prop) (w : World) (r : Option WS) (nest : Nat) (ch : List PanicEntry) (w' : World) : Prop :=
 ch = CL ∧ r = none ∧ ∃ s' O', Fr O w O' w' ∧ WSt w0 S p most long s' O' w' ∧ nest < s'.nest ∧ s'.nest ≤ 2 ^ 41
def L4 (w0 : World) (S : Nat → Prop) (p most long : Nat) (f : FuncId) (v : Value) (g : WS → Option WS) (k : Nat) : Prop :=
 ∀ s O w, WSt w0 S p most long s O w → s.use + 11 * k ≤ 2 ^ 40 →
  Calls prog f [ptr p, v].toArray w (Dq (PE w0 S p most long O w (g s)) (Mp w0 S p most long O w (g s) s.nest))
def CU : Ty → List Value → Value
 | .st _, cs => .agg cs.toArray
 | _, [v] => v
 | _, _ => undef
def CC (w0 : World) (S : Nat → Prop) (p most long : Nat) (f : FuncId) (ty : Ty) (t : T) : Prop :=
 ∀ cs, Rep w0 S t ty cs → L4 w0 S p most long f (CU ty cs) (enc most long t) t.wt
theorem Eb (n : Int) : GU n < 18446744073709551616 := by unfold GU; omega
theorem Bq {s : WS} {n : Nat} (h : n < 18446744073709551616) : (s.num n).use ≤ s.use + 10 := by
 have := B_ h
 simp only [WS.num, WS.use, List.length_append]
 omega
theorem Ex {l : List ByteArray} {x : ByteArray} {i : Nat} (h : l.findIdx? (fun y => decide (y = x)) = some i) : i < l.length ∧ l[i]? = some x := by
 rw [List.findIdx?_eq_some_iff_getElem] at h
 obtain ⟨h1, h2, _⟩ := h
 refine ⟨h1, ?_⟩
 rw [List.getElem?_eq_getElem h1]
 simpa using h2
theorem Ka {s : WS} {x : ByteArray} (h : s.use ≤ 2 ^ 40) : (s.str x).use ≤ s.use + 11 := by
 unfold WS.str
 have ht : s.tab.length ≤ 2 ^ 40 := by unfold WS.use at h; omega
 cases hi : s.tab.findIdx? (fun y => decide (y = x)) with
 | none =>
  simp only
  refine Nat.le_trans (Bq (by omega)) ?_
  simp only [WS.use, List.length_append, List.length_cons, List.length_nil]
  omega
 | some i =>
  simp only
  have := (Ex hi).1
  exact Nat.le_trans (Bq (by omega)) (by omega)
theorem T.wt_pos (t : T) : 1 ≤ t.wt := by cases t <;> simp [T.wt]
theorem BW : ∀ l : List T, l.length ≤ BA l
 | [] => by simp [BA]
 | t :: l => by have := T.wt_pos t; have := BW l; simp [BA]; omega
mutual
theorem JD {most long : Nat} : ∀ (t : T) (s s' : WS), enc most long t s = some s' → s.use + 11 * t.wt ≤ 2 ^ 40 → s'.use ≤ s.use + 11 * t.wt ∧ s'.nest = s.nest
 | .int n, s, s', h, hu => by
  simp only [enc, Option.some.injEq] at h; subst h
  have := Bq (s := s) (Eb n); simp only [T.wt] at *; exact ⟨by omega, rfl⟩
 | .bool b, s, s', h, hu => by
  simp only [enc, Option.some.injEq] at h; subst h
  have := Bq (s := s) (n := b.toNat) (by cases b <;> decide); simp only [T.wt] at *; exact ⟨by omega, rfl⟩
 | .str x, s, s', h, hu => by
  simp only [enc, Option.some.injEq] at h; subst h
  simp only [T.wt] at *
  have := Ka (s := s) (x := x) (by omega); refine ⟨by omega, ?_⟩
  unfold WS.str; split <;> rfl
 | .nil, s, s', h, hu => by
  simp only [enc, Option.some.injEq] at h; subst h
  have := Bq (s := s) (n := 0) (by decide); simp only [T.wt] at *; exact ⟨by omega, rfl⟩
 | .ptr t, s, s', h, hu => by
  simp only [enc] at h
  have h1 := Bq (s := s) (n := 1) (by decide)
  simp only [T.wt] at *
  have := JD t _ _ h (by omega)
  exact ⟨by omega, this.2⟩
 | .list l, s, s', h, hu => by
  simp only [enc] at h
  simp only [T.wt] at *
  have hl := BW l
  have h1 := Bq (s := s) (n := l.length) (by omega)
  have := Bw l _ _ h (by omega)
  exact ⟨by omega, this.2⟩
 | .agg sn l, s, s', h, hu => by
  simp only [enc] at h
  simp only [T.wt] at *
  cases hd : sn.deep with
  | false =>
   rw [hd] at h
   have := Bw l _ _ h (by omega)
   exact ⟨by omega, this.2⟩
  | true =>
   rw [hd] at h
   simp only at h
   split at h
   · cases h
   · simp only [Option.map_eq_some_iff] at h
     obtain ⟨u, h1, rfl⟩ := h
     have := Bw l _ _ h1 (by simp only [WS.use] at *; omega)
     simp only [WS.use] at *
     exact ⟨by omega, trivial⟩
theorem Bw {most long : Nat} : ∀ (l : List T) (s s' : WS), BU most long l s = some s' → s.use + 11 * BA l ≤ 2 ^ 40 → s'.use ≤ s.use + 11 * BA l ∧ s'.nest = s.nest
 | [], s, s', h, hu => by simp only [BU, Option.some.injEq] at h; subst h; exact ⟨by omega, rfl⟩
 | t :: l, s, s', h, hu => by
  simp only [BU, Option.bind_eq_some_iff] at h
  obtain ⟨u, h1, h2⟩ := h
  simp only [BA] at *
  have a := JD t _ _ h1 (by omega)
  have b := Bw l _ _ h2 (by omega)
  exact ⟨by omega, b.2.trans a.2⟩
end
theorem Bf : AF prog 185 0 0 := fun w b o => by
 simp [Instr.fieldAt, runUnderlying185, Instr.sureAddr, fieldPlace, sizeOf22, Addr.add_lit]
theorem EM : AF prog 185 1 1 := fun w b o => by
 simp [Instr.fieldAt, runUnderlying185, Instr.sureAddr, fieldPlace, sizeOf44, Addr.add_lit]
theorem Kq : AF prog 185 2 2 := fun w b o => by
 simp [Instr.fieldAt, runUnderlying185, Instr.sureAddr, fieldPlace, sizeOf131, Addr.add_lit]
theorem EK : AF prog 185 3 3 := fun w b o => by
 simp [Instr.fieldAt, runUnderlying185, Instr.sureAddr, fieldPlace, sizeOf3, Addr.add_lit]
theorem MI : AF prog 185 4 4 := fun w b o => by
 simp [Instr.fieldAt, runUnderlying185, Instr.sureAddr, fieldPlace, sizeOf3, Addr.add_lit]
theorem Mm : AF prog 185 5 5 := fun w b o => by
 simp [Instr.fieldAt, runUnderlying185, Instr.sureAddr, fieldPlace, sizeOf3, Addr.add_lit]
theorem Ow {w : World} {t : TypeId} {a : Int} : (binOp .shl t (.int .u64 a) (.int .u64 1)).run prog w = .ok (.int .u64 (IntKind.u64.wrap (a * 2))) w := rfl
theorem N6 {w : World} {t : TypeId} {n : Int} (h : Bu n) : (binOp .shr t (.int .i64 n) (.int .u64 63)).run prog w = .ok (.int .i64 (if n < 0 then -1 else 0)) w := by
 have h2 : Int.fdiv n 9223372036854775808 = if n < 0 then -1 else 0 := by
  rw [Int.fdiv_eq_ediv_of_nonneg _ (by decide)]
  unfold Bu at h
  split <;> omega
 show Result.ok (Value.int .i64 (Int.fdiv n 9223372036854775808)) w = _
 rw [h2]
theorem Oa (m : Nat) (h : m < 18446744073709551616) : (BitVec.ofInt 64 (m : Int) ^^^ BitVec.ofInt 64 18446744073709551615).toNat = 18446744073709551615 - m := by
 have h1 : BitVec.ofInt 64 18446744073709551615 = BitVec.allOnes 64 := by decide
 rw [h1, BitVec.xor_allOnes, BitVec.toNat_not, BitVec.toNat_ofInt]
 omega
theorem Ld (n : Int) (h : Bu n) (w : World) {t : TypeId} :
 (binOp .xor t (.int .u64 (IntKind.u64.wrap (IntKind.u64.wrap n * 2))) (.int .u64 (IntKind.u64.wrap (if n < 0 then -1 else 0)))).run prog w = .ok (.int .u64 (GU n : Nat)) w := by
 have hz := Eb n
 by_cases hn : n < 0
 · have h1 : IntKind.u64.wrap (IntKind.u64.wrap n * 2) = ((2 * n + 18446744073709551616).toNat : Nat) := by
    unfold Bu at h
    have : IntKind.u64.wrap n = n + 18446744073709551616 := by
     rw [show IntKind.u64.wrap n = n % 18446744073709551616 by simp [IntKind.wrap, IntKind.bits, IntKind.signed]]; omega
    rw [this, show ∀ a, IntKind.u64.wrap a = a % 18446744073709551616 by intro a; simp [IntKind.wrap, IntKind.bits, IntKind.signed]]
    omega
   have h2 : IntKind.u64.wrap (if n < 0 then -1 else 0) = 18446744073709551615 := by rw [if_pos hn]; rfl
   rw [h1, h2]
   show Result.ok (Value.int .u64 (IntKind.u64.wrap ((BitVec.ofInt 64 ((2 * n + 18446744073709551616).toNat : Nat) ^^^ BitVec.ofInt 64 18446744073709551615).toNat : Nat))) w = _
   rw [Oa _ (by unfold Bu at h; omega)]
   have h3 : 18446744073709551615 - (2 * n + 18446744073709551616).toNat = GU n := by
    unfold GU; unfold Bu at h; rw [if_neg (by omega)]; omega
   rw [h3, Bz (by omega) (by omega)]
 · have h1 : IntKind.u64.wrap (IntKind.u64.wrap n * 2) = ((2 * n).toNat : Nat) := by
    unfold Bu at h
    rw [Bz (n := n) (by omega) (by omega), Bz (by omega) (by omega)]; omega
   have h2 : IntKind.u64.wrap (if n < 0 then -1 else 0) = 0 := by rw [if_neg hn]; rfl
   rw [h1, h2]
   show Result.ok (Value.int .u64 (IntKind.u64.wrap ((BitVec.ofInt 64 ((2 * n).toNat : Nat) ^^^ BitVec.ofInt 64 0).toNat : Nat))) w = _
   have h3 : (BitVec.ofInt 64 ((2 * n).toNat : Nat) ^^^ BitVec.ofInt 64 0).toNat = GU n := by
    have : BitVec.ofInt 64 0 = 0#64 := by decide
    rw [this, BitVec.xor_zero, BitVec.toNat_ofInt]
    unfold GU; unfold Bu at h; rw [if_pos (by omega)]; omega
   rw [h3, Bz (by omega) (by omega)]
theorem Qw {w0 : World} {S : Nat → Prop} {p most long : Nat} {n : Int} (hn : Bu n) : L4 w0 S p most long 218 (.int .i64 n) (fun s => some (s.num (GU n))) 1 := by
 intro s O w hw hu
 obtain ⟨vb, hvb, hrb, hput⟩ := hw.put
 refine AB 19 func218 V V V ?_
 refine Aa (Ac V V (Ac V V (As V V (Ab V (Bf _ _ _) V (Ai V (A4 CG hvb) V ?_)))))
 refine Ac V V (AJ V (Bv runUnderlying3 runUnderlying164) V (Al V V Ow V (Ac V V (Al V V (N6 hn) V (AJ V (Bv runUnderlying3 runUnderlying164) V ?_)))))
 refine Al V V (Ld n hn _) V ?_
 refine Aj call97 V V (JN hrb (Eb n) (by have := B_ (Eb n); simp only [WS.use] at hu; omega)) ?_ Be
 rintro v' w1 ⟨r1, f1⟩
 obtain ⟨w2, O', hst, f2, hw2⟩ := hput v' w1 _ f1 r1
 refine As V V (Ab V (Bf _ _ _) V (An V V hst (A2 fun a ha => AV V ha ⟨rfl, _, _, rfl, f2, hw2⟩)))
end Go.Sx
namespace Go.Sx
open Go.Proofs Go.Proofs.Tryz
open Go.ChangeMaps (setBlock heap_setBlock_same heap_setBlock_other)
open Go.Maps (Keyed string_keyed)
theorem key9 : Keyed prog 9 := string_keyed underlying9
theorem Ey {x : ByteArray} (h : x.size ≤ maxLen) : keyOf prog 9 (.string x) = some (.string x.data.toList) := Go.WideMaps.keyOf_string_mk underlying9 h
theorem Hn {es : List MapEntry} {tab : List ByteArray} (hk : es.map (·.key) = tab.map Value.string) (ht : ∀ x ∈ tab, x.size ≤ maxLen) : ∀ e ∈ es, ∃ l, keyOf prog 9 e.key = some l := by
 intro e he
 have : e.key ∈ tab.map Value.string := by rw [← hk]; exact List.mem_map.2 ⟨e, he, rfl⟩
 obtain ⟨x, hx, hxe⟩ := List.mem_map.1 this
 exact ⟨_, by rw [← hxe]; exact Ey (ht x hx)⟩
theorem Ho {tab : List ByteArray} {x : ByteArray} {j : Nat} (hn : tab.Nodup) (hj : tab[j]? = some x) : tab.findIdx? (fun y => decide (y = x)) = some j := by
 obtain ⟨h1, h2⟩ := List.getElem?_eq_some_iff.1 hj
 rw [List.findIdx?_eq_some_iff_getElem]
 refine ⟨h1, by simp [h2], ?_⟩
 intro i hi
 have hne : tab[i] ≠ x := by
  intro e
  exact (List.pairwise_iff_getElem.1 hn i j (by omega) h1 hi) (e.trans h2.symm)
 simp [hne]
theorem L5 {tab : List ByteArray} {x : ByteArray} (h : x ∉ tab) : tab.findIdx? (fun y => decide (y = x)) = none := by
 rw [List.findIdx?_eq_none_iff]
 intro y hy
 have : y ≠ x := fun e => h (e ▸ hy)
 simp [this]
theorem C8 {P : Program} {w : World} {bm : Nat} {es : Array MapEntry} {clock : Nat} (hb : w.heap[bm]? = some (.map es clock)) : (getObj bm).run P w = .ok (.map es clock) w := by
 simp only [getObj, Sem.run, hb]
theorem M9 {w : World} {bm : Nat} {tab : List ByteArray} {x : ByteArray} (h : MapTab w bm tab) (ht : ∀ x ∈ tab, x.size ≤ maxLen) (hn : tab.Nodup) (hx : x.size ≤ maxLen) :
 (Instr.lookup 131 (.map (some bm)) (.string x) true).run prog w =
  .ok (match tab.findIdx? (fun y => decide (y = x)) with | some j => .tuple #[.int .i64 j, .bool true] | none => .tuple #[.int .i64 0, .bool false]) w := by
 obtain ⟨es, clock, hb, hk, hv⟩ := h
 have hkeys := Hn hk ht
 have hc := fun em => key9.check w em (Ey hx)
 rcases key9.find w (Ey hx) es.toList hkeys with ⟨hf, hno⟩ | ⟨j, e, hf, hj, he⟩
 · have hnx : x ∉ tab := by
    intro hm
    have : Value.string x ∈ es.toList.map (·.key) := by rw [hk]; exact List.mem_map.2 ⟨x, hm, rfl⟩
    obtain ⟨e, he, hee⟩ := List.mem_map.1 this
    exact hno e he hee
   rw [L5 hnx]
   simp [Instr.lookup, runUnderlying131, C8 hb, hc, hf, zeroValue3]
 · have htj : tab[j]? = some x := by
    have h1 : (tab.map Value.string)[j]? = some e.key := by rw [← hk]; simp [hj]
    rw [he] at h1
    simp only [List.getElem?_map, Option.map_eq_some_iff, Value.string.injEq] at h1
    obtain ⟨y, hy, rfl⟩ := h1
    exact hy
   have hval : e.val = .int .i64 (j : Int) := by
    have h1 : ((List.range tab.length).map fun (i : Nat) => Value.int .i64 (i : Int))[j]? = some e.val := by rw [← hv]; simp [hj]
    have hjl := (List.getElem?_eq_some_iff.1 htj).1
    simp [hjl] at h1
    exact h1.symm
   rw [Ho hn htj]
   simp [Instr.lookup, runUnderlying131, C8 hb, hc, hf, hval]
theorem MC {w : World} {bm : Nat} {tab : List ByteArray} {x : ByteArray} (h : MapTab w bm tab) (ht : ∀ x ∈ tab, x.size ≤ maxLen) (hx : x.size ≤ maxLen) (hnx : x ∉ tab) :
 ∃ w', (Instr.mapUpdate 131 (.map (some bm)) (.string x) (.int .i64 tab.length)).run prog w = .ok () w' ∧ MapTab w' bm (tab ++ [x]) ∧ Fr (fun b => b = bm) w (fun b => b = bm) w' := by
 obtain ⟨es, clock, hb, hk, hv⟩ := h
 have hkeys := Hn hk ht
 have hc := key9.check w false (Ey hx)
 rcases key9.find w (Ey hx) es.toList hkeys with ⟨hf, _⟩ | ⟨j, e, hf, hj, he⟩
 · refine ⟨setBlock w bm (.map (es.push ⟨.string x, .int .i64 tab.length, clock⟩) (clock + 1)), ?_, ⟨_, _, heap_setBlock_same hb _, ?_, ?_⟩, ⟨rfl, rfl, rfl, by simp [setBlock], fun b _ hn => heap_setBlock_other hb _ (fun e => hn e), fun _ h => .inl h⟩⟩
   · simp [Instr.mapUpdate, runUnderlying131, C8 hb, hc, hf, setBlock, setObj, Sem.run, hb]
   · simp [hk]
   · simp [hv, List.range_succ]
 · exfalso
   have h1 : (tab.map Value.string)[j]? = some e.key := by rw [← hk]; simp [hj]
   rw [he] at h1
   simp only [List.getElem?_map, Option.map_eq_some_iff, Value.string.injEq] at h1
   obtain ⟨y, hy, rfl⟩ := h1
   exact hnx (List.mem_of_getElem? hy)
end Go.Sx
namespace Go.Sx
open Go.Proofs Go.Proofs.Tryz
theorem Kl {w : World} {b n c : Nat} {l : List ByteArray} (hb : Blk w b (l.map Value.string) 9) (hn : l.length = n) : Src prog 1 44 (.slice (some ⟨b, 0, none⟩) n c) n (l.map Value.string) w :=
 IJ (P := prog) (e := 9) underlying44 hb (by simpa using hn) (by
  intro u hu
  obtain ⟨x, _, rfl⟩ := List.mem_map.1 hu
  rfl)
theorem Fh {w : World} {v x : Value} {xs ys : List ByteArray} {u ty : TypeId} (r : w.ownsRow 0 9 1 v xs.length (xs.map Value.string)) (hs : Src prog 1 u x ys.length (ys.map Value.string) w)
 (hl : xs.length + ys.length ≤ 2 ^ 42) : ∃ v' w', (Builtin.append_ #[44, u] ty #[v, x]).run prog w = .ok v' w' ∧
  w'.ownsRow 0 9 1 v' (xs ++ ys).length ((xs ++ ys).map Value.string) ∧ Fr (Bk v) w (Bk v') w' := by
 obtain ⟨i, hi, hz, hs1, hb⟩ := J6 Qu
 obtain ⟨v', w', h1, h2, h3, h4, _⟩ := GB (P := prog) (ty := ty) (e := 9) (bytes := 16) (z := .string ⟨#[]⟩) underlying44 hi hz hs1 hb rfl r hs (by simp only [maxLen]; omega) (by omega)
 exact ⟨v', w', h1, by simpa using h2, EZ h3 h4⟩
theorem JG {w : World} {x : ByteArray} : (Instr.buildSlice 44 1 #[(0, .string x)]).run prog w = .ok (.slice (some ⟨w.heap.size, 0, none⟩) 1 1) (w.alloc (.cells [Value.string x].toArray 9)) :=
 CT underlying44 MM zeroValue9 rfl rfl
theorem FG : By prog 44 false 1 := D_
theorem Pa : By prog 131 false 1 := PS
theorem LX (a b c : Value) (cs : List Value) : Ch (a :: b :: cs) 1 [c] = a :: c :: cs := by simp [Ch]
section
variable {w0 : World} {S : Nat → Prop} {p most long : Nat} {s : WS} {O : Nat → Prop} {w : World}
theorem WSt.addTab (h : WSt w0 S p most long s O w) {x : ByteArray} (hx : x.size ≤ maxLen) (hnx : x ∉ s.tab) : ∃ vt bm w1, w.cell? ⟨p, 1, none⟩ = some vt ∧ w.cell? ⟨p, 2, none⟩ = some (.map (some bm)) ∧
 w.ownsRow 0 9 1 vt s.tab.length (s.tab.map Value.string) ∧
 (Instr.mapUpdate 131 (.map (some bm)) (.string x) (.int .i64 s.tab.length)).run prog w = .ok () w1 ∧ w1.cell? ⟨p, 1, none⟩ = some vt ∧ w1.ownsRow 0 9 1 vt s.tab.length (s.tab.map Value.string) ∧
 ∀ vt' w', Fr (Bk vt) w1 (Bk vt') w' → w'.ownsRow 0 9 1 vt' (s.tab ++ [x]).length ((s.tab ++ [x]).map Value.string) →
  ∃ w'' O', (storeVar 44 ⟨p, 1, none⟩ vt').run prog w' = .ok () w'' ∧ Fr O w O' w'' ∧ WSt w0 S p most long { s with tab := s.tab ++ [x] } O' w'' := by
 obtain ⟨vb, vt, bm, m⟩ := h.mem
 obtain ⟨w1, hr, hm1, f0⟩ := MC m.mp h.tabs hx hnx
 have hp : p < w.heap.size := h.lt p m.op
 have k1 : ∀ b, b ≠ bm → b < w.heap.size → w1.heap[b]? = w.heap[b]? := fun b hb hl => f0.blk b hl hb
 have hp1 : Blk w1 p [vb, vt, .map (some bm), .int .i64 s.nest, .int .i64 most, .int .i64 long] 185 := (k1 p m.pm hp).trans m.blk
 have r1 : w1.ownsRow 0 9 1 vt s.tab.length (s.tab.map Value.string) := AP m.rt (fun b hb => k1 b (m.ot b hb).2.2 (AT m.rt hb))
 refine ⟨vt, bm, w1, by rw [m.blk.cell]; rfl, by rw [m.blk.cell]; rfl, m.rt, hr, by rw [hp1.cell]; rfl, r1, ?_⟩
 intro vt' w' f r
 have hs1 : w.heap.size ≤ w1.heap.size := f0.size
 have hbp : w'.heap[p]? = w1.heap[p]? := f.blk p (by omega) (fun ho => (m.ot p ho).2.1 rfl)
 have hblk : Blk w' p [vb, vt, .map (some bm), .int .i64 s.nest, .int .i64 most, .int .i64 long] 185 := hbp.trans hp1
 have hne : ∀ k, Bk vt' k → k ≠ p ∧ k ≠ bm ∧ ¬ Bk vb k := by
  intro k hk
  rcases f.own k hk with h1 | h1
  · exact ⟨(m.ot k h1).2.1, (m.ot k h1).2.2, fun hb => (m.ob k hb).2.2.2 h1⟩
  · refine ⟨by omega, ?_, ?_⟩
    · have := h.lt bm m.om; omega
    · intro ht; have := AT m.rb ht; omega
 have hvb : vt'.cells = [vt'].toArray ∧ vt'.oneCell' = true := by
  rcases r.2 with ⟨rfl, _⟩ | ⟨g, cap, cur, rfl, _⟩ <;> exact ⟨rfl, rfl⟩
 have hst := BR (P := prog) (w := w') (t := 44) (n := 1) (agg := false) (b := p) (o := 1) (v := vt') FG hvb.1 rfl (by simpa using hvb.2) hblk (by simp)
 rw [LX] at hst
 have f1 : Fr O w (grow O w w1) w1 := f0.grow (fun b hb => by subst hb; exact m.om)
 have f2 : Fr (grow O w w1) w1 (grow (grow O w w1) w1 w') w' := f.grow (fun b hb => .inl (m.ot b hb).1)
 have f3 : Fr (grow (grow O w w1) w1 w') w' (grow (grow O w w1) w1 w') (w'.setRow p [vb, vt', .map (some bm), .int .i64 s.nest, .int .i64 most, .int .i64 long].toArray) := Fr.setRow _ (.inl (.inl m.op))
 have hoth : ∀ b, b ≠ p → (w'.setRow p [vb, vt', .map (some bm), .int .i64 s.nest, .int .i64 most, .int .i64 long].toArray).heap[b]? = w'.heap[b]? := fun b hb => setRow_other w' p b _ hb
 refine ⟨_, _, hst, f1.trans (f2.trans f3), ?_, ?_, ?_, ?_, ?_, ?_⟩
 · intro b hb hl
   have hi := h.inp b hb hl
   have hbl : b < w.heap.size := Nat.lt_of_lt_of_le hl h.base
   refine ⟨fun ho => ho.elim (fun ho => ho.elim hi.1 (fun hg => by omega)) (fun hg => by omega), ?_⟩
   rw [hoth b (fun e => hi.1 (e ▸ m.op)), f.blk b (by omega) (fun ho => hi.1 (m.ot b ho).1), k1 b (fun e => hi.1 (e ▸ m.om)) hbl]
   exact hi.2
 · intro b hb
   simp only [BB]
   refine hb.elim (fun ho => ho.elim (fun ho => ?_) (fun hg => ?_)) (fun hg => hg.2)
   · have := h.lt b ho; have := f.size; omega
   · have := f.size; omega
 · simp only [BB]
   have := f.size; have := h.base; omega
 · have hvb' : ∀ b, Bk vb b → w'.heap[b]? = w.heap[b]? := fun b hb => by
    have hl := AT m.rb hb
    rw [f.blk b (by omega) (fun ho => (m.ob b hb).2.2.2 ho), k1 b (m.ob b hb).2.2.1 hl]
   have hbm : w'.heap[bm]? = w1.heap[bm]? := f.blk bm (by have := h.lt bm m.om; omega) (fun ho => (m.ot bm ho).2.2 rfl)
   refine ⟨vb, vt', bm, hblk.setRow _, AP m.rb (fun b hb => (hoth b (m.ob b hb).2.1).trans (hvb' b hb)), AP r (fun b hb => hoth b (hne b hb).1), hm1.agree ((hoth bm (fun e => m.pm e.symm)).trans hbm), .inl (.inl m.op), .inl (.inl m.om), ?_, ?_, m.pm⟩
   · intro k hk
     exact ⟨.inl (.inl (m.ob k hk).1), (m.ob k hk).2.1, (m.ob k hk).2.2.1, fun ht => (hne k ht).2.2 hk⟩
   · intro k hk
     refine ⟨?_, (hne k hk).1, (hne k hk).2.1⟩
     rcases f.own k hk with h1 | h1
     · exact .inl (.inl (m.ot k h1).1)
     · exact .inr ⟨h1, AT r hk⟩
 · intro y hy
   rcases List.mem_append.1 hy with h1 | h1
   · exact h.tabs y h1
   · rw [List.mem_singleton.1 h1]; exact hx
 · rw [List.nodup_append]
   exact ⟨h.nodup, by simp, fun a ha b hb => by rw [List.mem_singleton.1 hb]; exact fun e => hnx (e ▸ ha)⟩
theorem WSt.look (h : WSt w0 S p most long s O w) {x : ByteArray} (hx : x.size ≤ maxLen) : ∃ bm, w.cell? ⟨p, 2, none⟩ = some (.map (some bm)) ∧
 (Instr.lookup 131 (.map (some bm)) (.string x) true).run prog w =
  .ok (match s.tab.findIdx? (fun y => decide (y = x)) with | some j => .tuple #[.int .i64 j, .bool true] | none => .tuple #[.int .i64 0, .bool false]) w := by
 obtain ⟨vb, vt, bm, m⟩ := h.mem
 exact ⟨bm, by rw [m.blk.cell]; rfl, M9 m.mp h.tabs h.nodup hx⟩
end
theorem Rp {w0 : World} {S : Nat → Prop} {p most long : Nat} {x : ByteArray} (hx : x.size ≤ maxLen) : L4 w0 S p most long 151 (.string x) (fun s => some (s.str x)) 1 := by
 intro s O w hw hu
 obtain ⟨bm, hbm, hlk⟩ := hw.look hx
 refine AB 48 func151 V V V ?_
 refine Af (Aa (Ac V V (As V V (Ab V (Kq _ _ _) V (Ai V (A4 Pa hbm) V (Ac V V (IV V V hlk V ?_)))))))
 have hu' : s.use ≤ 2 ^ 40 - 11 := by omega
 have hub : s.b.length ≤ 2 ^ 40 ∧ s.tab.length ≤ 2 ^ 40 := by simp only [WS.use] at hu'; omega
 obtain ⟨c, ok, hres, hcase⟩ : ∃ (c : Nat) (ok : Bool), (match s.tab.findIdx? (fun y => decide (y = x)) with | some j => Value.tuple #[.int .i64 (j : Int), .bool true] | none => .tuple #[.int .i64 0, .bool false]) = .tuple #[.int .i64 c, .bool ok] ∧
  ((ok = true ∧ c < s.tab.length ∧ s.num c = s.str x) ∨ (ok = false ∧ x ∉ s.tab ∧ ({ s with tab := s.tab ++ [x] } : WS).num s.tab.length = s.str x)) := by
  cases hf : s.tab.findIdx? (fun y => decide (y = x)) with
  | some j => exact ⟨j, true, rfl, .inl ⟨rfl, (Ex hf).1, by unfold WS.str; rw [hf]⟩⟩
  | none =>
   refine ⟨0, false, rfl, .inr ⟨rfl, ?_, by unfold WS.str; rw [hf]⟩⟩
   intro hm
   have := List.findIdx?_eq_none_iff.1 hf x hm
   simp at this
 rw [hres]
 refine Ac V V (Cn V V V (Cn V V V (Ah V V (Ah V V (Ar [(0, ptr p), (1, .string x), (4, .int .i64 c), (5, .bool ok)] ⟨V, V, V, V, trivial⟩ ?_)))))
 refine B9 (ι := WS × (Nat → Prop) × Nat) (fun i => [(0, ptr p), (4, .int .i64 i.2.2)]) (fun i w1 => WSt w0 S p most long i.1 i.2.1 w1 ∧ Fr O w i.2.1 w1 ∧ i.2.2 < 9223372036854775807 ∧ i.1.b.length ≤ 2 ^ 40 ∧ i.1.num i.2.2 = s.str x) ?_ ?_
 · refine Af (Aa (Ac V V (Bt V V (Ae (AK V (fun hok => ?_) (fun hok => A_ fun a ha => Ad ?_))))))
   · have hok' : ok = false := by simpa using hok
     rcases hcase with ⟨h1, _⟩ | ⟨_, hnx, hst⟩
     · rw [hok'] at h1; cases h1
     obtain ⟨vt, bm', w1, hc1, hc2, hrt, hup, hc1', hrt', hfin⟩ := hw.addTab hx hnx
     refine Af (Aa (Ac V V (As V V (Ab V (EM _ _ _) V (Ai V (A4 FG hc1) V ?_)))))
     obtain ⟨g, n, cp, hvt⟩ : ∃ g n cp, vt = .slice g n cp ∧ n = s.tab.length := by
      rcases hrt.2 with ⟨h1, h2⟩ | ⟨g, cap, cur, h1, _⟩
      · exact ⟨none, 0, 0, h1, h2.symm⟩
      · exact ⟨_, _, _, h1, rfl⟩
     obtain ⟨rfl, hn⟩ := hvt
     refine AE V (Ay underlying44) V (Ah V V (Ae ?_))
     rw [hn]
     refine Af (Aa (Ac V V (As V V (Ab V (Kq _ _ _) V (Ai V (A4 Pa hc2) V (Ac V V (Ac V V (I4 V V V hup (Ae ?_)))))))))
     refine Aa (Ac V V (Ac V V (As V V (Ab V (EM _ _ _) V (Ai V (A4 FG hc1') V (Ac V V (A7 V JG V ?_)))))))
     obtain ⟨v2, w2, hr2, r2, f2⟩ := Fh (w := w1.alloc (.cells [Value.string x].toArray 9)) (ty := 44) (ys := [x]) (DC hrt' _) (Kl (n := 1) (c := 1) AN rfl) (by simp; omega)
     obtain ⟨w3, O3, hst3, f3, hw3⟩ := hfin v2 w2 ((Fr.alloc _ _ _).trans f2) r2
     refine AU V V hr2 V (As V V (Ab V (EM _ _ _) V (An V V hst3 (A2 fun a ha => Ad ?_))))
     exact ⟨(_, O3, s.tab.length), ha.weak ⟨V, V, trivial⟩, hw3, f3, by show s.tab.length < _; omega, hub.1, hst⟩
   · have hok' : ok = true := by simpa using hok
     rcases hcase with ⟨_, hc, hst⟩ | ⟨h1, _⟩
     · exact ⟨(s, O, c), ha.weak ⟨V, V, trivial⟩, hw, Fr.refl _ _, by show c < _; omega, hub.1, hst⟩
     · rw [hok'] at h1; cases h1
 · rintro ⟨s1, O1, c1⟩ w1 ⟨hw1, f1, hc1, hb1, hst⟩
   simp only at hw1 f1 hc1 hb1 hst ⊢
   obtain ⟨vb, hvb, hrb, hput⟩ := hw1.put
   refine Aa (Ac V V (Ac V V (As V V (Ab V (Bf _ _ _) V (Ai V (A4 CG hvb) V (Ac V V (AJ V (Bv runUnderlying3 runUnderlying164) V ?_)))))))
   rw [Bz (by omega) (by omega)]
   refine Aj call97 V V (JN hrb (by omega) (by have := B_ (n := c1) (by omega); omega)) ?_ Be
   rintro v' w2 ⟨r2, f2⟩
   obtain ⟨w3, O', hst3, f3, hw3⟩ := hput v' w2 _ f2 r2
   refine As V V (Ab V (Bf _ _ _) V (An V V hst3 (A2 fun a ha => AV V ha ⟨rfl, _, _, rfl, f1.trans f3, ?_⟩)))
   rw [← hst]; exact hw3
end Go.Sx
namespace Go.Sx
open Go.Proofs Go.Proofs.Tryz
def WS.nums (s : WS) : List Nat → WS
 | [] => s
 | n :: l => (s.num n).nums l
theorem GO : ∀ (l : List Nat) (s : WS) (n : Nat), s.nums (l ++ [n]) = (s.nums l).num n
 | [], _, _ => rfl
 | m :: l, s, n => GO l (s.num m) n
theorem BK {α : Type} {l : List α} {i : Nat} {x : α} (h : l[i]? = some x) : l.take (i + 1) = l.take i ++ [x] := by
 rw [List.take_add_one, h]; rfl
theorem Bx {most long : Nat} : ∀ (l k : List T) (s : WS), BU most long (l ++ k) s = (BU most long l s).bind (BU most long k)
 | [], k, s => by simp [BU]
 | t :: l, k, s => by
  simp only [List.cons_append, BU]
  cases enc most long t s with
  | none => rfl
  | some u => exact Bx l k u
theorem Cm {most long : Nat} (t : T) (s : WS) : BU most long [t] s = enc most long t s := by
 simp only [BU]
 cases enc most long t s <;> rfl
theorem Ci {most long : Nat} {l : List T} {i : Nat} {t : T} {s s' : WS} (h : l[i]? = some t) (h1 : BU most long (l.take i) s = some s') (h2 : enc most long t s' = none) : BU most long l s = none := by
 have : l = (l.take i ++ [t]) ++ l.drop (i + 1) := by rw [← BK h, List.take_append_drop]
 rw [this, Bx, Bx, h1]
 simp [Cm, h2]
theorem Cb {l : List T} {i : Nat} {t : T} (h : l[i]? = some t) : BA (l.take i) + t.wt ≤ BA l := by
 have key : ∀ (a b : List T), BA (a ++ b) = BA a + BA b := by
  intro a b
  induction a with
  | nil => simp [BA]
  | cons x a ih => simp [BA, ih]; omega
 have : l = (l.take i ++ [t]) ++ l.drop (i + 1) := by rw [← BK h, List.take_append_drop]
 have e := congrArg BA this
 rw [key, key] at e
 simp only [BA] at e
 omega
theorem CV {P : Program} {w : World} {te n : Nat} {agg : Bool} {z v : Value} {ds : List Value} (ht : By P te agg n) (hz : z.cells.size = n) (hl : ds.length = n) (hv : v.cells = ds.toArray) (h1 : ∀ x ∈ ds, x.oneCell' = true) :
 ∃ w2, (storeVar te ⟨w.heap.size, 0, none⟩ v).run P (w.alloc (.cells z.cells te)) = .ok () w2 ∧ Blk w2 w.heap.size ds te ∧ Fr (fun _ => False) w (fun b => b = w.heap.size) w2 ∧ w2.heap.size = w.heap.size + 1 := by
 have hb : Blk (w.alloc (.cells z.cells te)) w.heap.size z.cells.toList te := by
  have := heap_alloc_new w (.cells z.cells te)
  simpa [Blk] using this
 have hst := BR (P := P) (o := 0) (v := v) (vs := ds) ht hv hl h1 hb (by simp [hl, hz])
 have hs : Ch z.cells.toList 0 ds = ds := by
  simp only [Ch, List.take_zero, List.nil_append, Nat.zero_add]
  rw [List.drop_eq_nil_of_le (by simp [hl, hz])]
  simp
 rw [hs] at hst
 refine ⟨_, hst, hb.setRow ds, ⟨rfl, rfl, rfl, by simp, fun b hb' _ => ?_, fun b hb' => .inr (by omega)⟩, by simp⟩
 rw [setRow_other _ _ _ _ (by omega), heap_alloc_old w _ b hb']
mutual
theorem Rep.one {w : World} {S : Nat → Prop} : ∀ (t : T) (f : Ty) (cs : List Value), Rep w S t f cs → cs.length = f.size ∧ (∀ x ∈ cs, x.oneCell' = true)
 | .int n, f, cs, h => by cases f <;> simp only [Rep] at h; rw [h.1]; simp [Ty.size, Value.oneCell']
 | .bool n, f, cs, h => by cases f <;> simp only [Rep] at h; rw [h]; simp [Ty.size, Value.oneCell']
 | .str n, f, cs, h => by cases f <;> simp only [Rep] at h; rw [h.1]; simp [Ty.size, Value.oneCell']
 | .nil, f, cs, h => by cases f <;> simp only [Rep] at h; rw [h]; simp [Ty.size, Value.oneCell']
 | .ptr t, f, cs, h => by
  cases f <;> simp only [Rep] at h
  obtain ⟨b, o, ds, h, _⟩ := h; rw [h]; simp [Ty.size, Value.oneCell']
 | .list l, f, cs, h => by
  cases f <;> simp only [Rep] at h
  rcases h with ⟨⟨g, cap, h⟩, _⟩ | ⟨b, o, cap, h, _⟩
  · rw [h]; simp [Ty.size, Value.oneCell']
  · rw [h]; simp [Ty.size, Value.oneCell']
 | .agg s l, f, cs, h => by
  cases f <;> simp only [Rep] at h
  rename_i s'
  obtain ⟨rfl, h1, h2⟩ := h
  refine ⟨h1, ?_⟩
  have := RepF.one l _ 0 cs h2
  intro x hx
  obtain ⟨i, hi⟩ := List.mem_iff_getElem?.1 hx
  have hi' := (List.getElem?_eq_some_iff.1 hi).1
  refine this i x (Nat.zero_le _) ?_ hi
  have hsz : (s.fields.map Ty.size).sum = s.size := by cases s <;> decide
  omega
theorem RepF.one {w : World} {S : Nat → Prop} : ∀ (l : List T) (fs : List Ty) (o : Nat) (cs : List Value), RepF w S l fs o cs → ∀ i x, o ≤ i → i < o + (fs.map Ty.size).sum → cs[i]? = some x → x.oneCell' = true
 | [], fs, o, cs, h, i, x, h1, h2, h3 => by
  cases fs <;> simp only [RepF] at h
  simp at h2; omega
 | t :: l, fs, o, cs, h, i, x, h1, h2, h3 => by
  cases fs <;> simp only [RepF] at h
  rename_i f fs
  simp only [List.map_cons, List.sum_cons] at h2
  by_cases hi : i < o + f.size
  · have := (Rep.one t f _ h.1).2 x
    apply this
    refine List.mem_of_getElem? (i := i - o) ?_
    rw [List.getElem?_take, if_pos (by omega), List.getElem?_drop, show o + (i - o) = i from by omega, h3]
  · exact RepF.one l fs _ cs h.2 i x (by omega) (by omega) h3
end
theorem LA {w0 : World} {S : Nat → Prop} {p most long : Nat} {ns : List Int} (hns : ∀ n ∈ ns, Bu n) {s : WS} {O : Nat → Prop} {w : World} (hw : WSt w0 S p most long s O w) (hu : s.use + 11 * ns.length ≤ 2 ^ 40)
 {b : Nat} (hb : Own O w b (ns.map (Value.int .i64)) 3) :
 Calls prog 207 [ptr p, .slice (some ⟨b, 0, none⟩) ns.length ns.length].toArray w (Dq (fun v w' => v = .tuple #[] ∧ ∃ O', Fr O w O' w' ∧ WSt w0 S p most long (s.nums (ns.map GU)) O' w') (fun _ _ => False)) := by
 refine AB 16 func207 V V V ?_
 refine Af (Aa (Ac V V (AE V (Ay underlying262) V (Ac V V (Ae ?_)))))
 refine A1 (AW (ι := Nat × (Nat → Prop)) (fun i => [(0, ptr p), (6, .slice (some ⟨b, 0, none⟩) ns.length ns.length), (7, .int .i64 ns.length), (8, .int .i64 i.1)])
  (fun i w' => i.1 ≤ ns.length ∧ WSt w0 S p most long (s.nums ((ns.take i.1).map GU)) i.2 w' ∧ Fr O w i.2 w' ∧ (s.nums ((ns.take i.1).map GU)).use ≤ s.use + 11 * i.1) (fun i => ns.length - i.1)
  (0, O) ⟨V, V, V, V, trivial⟩ ⟨Nat.zero_le _, hw, Fr.refl _ _, Nat.le_refl _⟩ ?_)
 rintro ⟨i, Oi⟩ wi ⟨hi, hwi, fi, hui⟩
 simp only at hi hwi fi hui ⊢
 refine Af (Aa (Al V V V V (Ae (Af ?_))))
 refine AK V (fun ht => A_ fun a ha => Ad ?_) (fun hf => AQ fun a ha => Aq (Aq (A3 ?_)))
 · have hlt : i < ns.length := by simp at ht; omega
   obtain ⟨n, hn⟩ : ∃ n, ns[i]? = some n := ⟨_, List.getElem?_eq_getElem hlt⟩
   have hin := hns n (List.mem_of_getElem? hn)
   have hbi := fi.keep hb
   have hcell : wi.cell? ⟨b, 0 + i * 1, none⟩ = some (.int .i64 n) := by rw [hbi.blk.cell]; simp [hn]
   refine (Af (A1 (Af (Aa (A0 V V (Bp underlying262 Hm (by omega) (by omega)) V ?_))))) a ha
   rw [Int.toNat_natCast]
   refine Ai V (A4 Hm hcell) V (Ah V V (Ae ?_))
   refine Aa (Ac rfl rfl (Ac rfl rfl (Aj call218 rfl rfl (Qw hin _ _ _ hwi (by omega)) ?_ (fun _ _ h => by obtain ⟨_, h, _⟩ := h; cases h))))
   rintro v w2 ⟨rfl, s2, O2, hs2, f2, hw2⟩
   cases hs2
   have hsn : (s.nums ((ns.take i).map GU)).num (GU n) = s.nums ((ns.take (i + 1)).map GU) := by rw [BK hn, List.map_append, ← GO]; rfl
   refine A2 fun a ha => Az (Ad ((Aa (Al V V V V (Ac V V (A2 fun a ha => Ad ?_)))) a ha))
   refine ⟨(i + 1, O2), ha.weak ⟨rfl, rfl, rfl, ?_, trivial⟩, ⟨hlt, by rw [← hsn]; exact hw2, fi.trans f2, ?_⟩, by simp only; omega⟩
   · show some (Value.int .i64 (IntKind.i64.wrap ((i : Int) + 1))) = some (Value.int .i64 ((i + 1 : Nat) : Int))
     rw [B4 (by unfold Bu; omega)]; rfl
   · rw [← hsn]
     have := Bq (s := s.nums ((ns.take i).map GU)) (Eb n)
     simp only; omega
 · have hge : i = ns.length := by simp at hf; omega
   subst hge
   refine AV V ha ⟨rfl, Oi, fi, ?_⟩
   rw [List.take_length] at hwi; exact hwi
theorem Jl {w0 : World} {S : Nat → Prop} {p most long : Nat} {ns : List Bool} {s : WS} {O : Nat → Prop} {w : World} (hw : WSt w0 S p most long s O w) (hu : s.use + 11 * ns.length ≤ 2 ^ 40)
 {b : Nat} (hb : Own O w b (ns.map Value.bool) 4) :
 Calls prog 206 [ptr p, .slice (some ⟨b, 0, none⟩) ns.length ns.length].toArray w (Dq (fun v w' => v = .tuple #[] ∧ ∃ O', Fr O w O' w' ∧ WSt w0 S p most long (s.nums (ns.map Bool.toNat)) O' w') (fun _ _ => False)) := by
 refine AB 24 func206 V V V ?_
 refine Af (Aa (Ac V V (AE V (Ay underlying349) V (Ac V V (Ae ?_)))))
 refine A1 (AW (ι := Nat × (Nat → Prop)) (fun i => [(0, ptr p), (7, .slice (some ⟨b, 0, none⟩) ns.length ns.length), (8, .int .i64 ns.length), (9, .int .i64 i.1)])
  (fun i w' => i.1 ≤ ns.length ∧ WSt w0 S p most long (s.nums ((ns.take i.1).map Bool.toNat)) i.2 w' ∧ Fr O w i.2 w' ∧ (s.nums ((ns.take i.1).map Bool.toNat)).use ≤ s.use + 11 * i.1) (fun i => ns.length - i.1)
  (0, O) ⟨V, V, V, V, trivial⟩ ⟨Nat.zero_le _, hw, Fr.refl _ _, Nat.le_refl _⟩ ?_)
 rintro ⟨i, Oi⟩ wi ⟨hi, hwi, fi, hui⟩
 simp only at hi hwi fi hui ⊢
 refine Af (Aa (Al V V V V (Ae (Af ?_))))
 refine AK V (fun ht => A_ fun a ha => Ad ?_) (fun hf => AQ fun a ha => Aq (Aq (A3 ?_)))
 · have hlt : i < ns.length := by simp at ht; omega
   obtain ⟨n, hn⟩ : ∃ n, ns[i]? = some n := ⟨_, List.getElem?_eq_getElem hlt⟩
   have hbi := fi.keep hb
   have hcell : wi.cell? ⟨b, 0 + i * 1, none⟩ = some (.bool n) := by rw [hbi.blk.cell]; simp [hn]
   refine (Af (A1 (Af (Aa (A0 V V (Bp underlying349 Ee (by omega) (by omega)) V ?_))))) a ha
   rw [Int.toNat_natCast]
   refine Ai V (A4 Ee hcell) V (Ah V V (Ae (Af (Aa (Ah V V (Ae ?_))))))
   refine B9 (ι := Unit) (fun _ => [(0, ptr p), (6, .int .u64 (n.toNat : Nat)), (7, .slice (some ⟨b, 0, none⟩) ns.length ns.length), (8, .int .i64 ns.length), (9, .int .i64 i)]) (fun _ w' => w' = wi)
    (Af (Aa (Ac rfl rfl (Ae (AK rfl (fun ht => Aa (Ah rfl rfl (A2 fun a ha => Ad ?_))) (fun hf => A_ fun a ha => Ad ?_)))))) ?_
   · exact ⟨(), ha.weak ⟨rfl, by rw [ht]; rfl, rfl, rfl, rfl, trivial⟩, rfl⟩
   · exact ⟨(), ha.weak ⟨rfl, by rw [hf]; rfl, rfl, rfl, rfl, trivial⟩, rfl⟩
   rintro _ _ rfl
   obtain ⟨vb, hvb, hrb, hput⟩ := hwi.put
   refine Aa (Ac V V (Ac V V (As V V (Ab V (Bf _ _ _) V (Ai V (A4 CG hvb) V (Ac V V ?_))))))
   refine Aj call97 V V (JN hrb (by cases n <;> decide) (by have := B_ (n := n.toNat) (by cases n <;> decide); simp only [WS.use] at *; omega)) ?_ Be
   rintro v' w1 ⟨r1, f1⟩
   obtain ⟨w2, O2, hst, f2, hw2⟩ := hput v' w1 _ f1 r1
   refine As V V (Ab V (Bf _ _ _) V (An V V hst (A2 fun a ha => Az (Ad ((Aa (Al V V V V (Ac V V (A2 fun a ha => Ad ?_)))) a ha)))))
   have hsn : (s.nums ((ns.take i).map Bool.toNat)).num n.toNat = s.nums ((ns.take (i + 1)).map Bool.toNat) := by rw [BK hn, List.map_append, ← GO]; rfl
   refine ⟨(i + 1, O2), ha.weak ⟨rfl, rfl, rfl, ?_, trivial⟩, ⟨hlt, by rw [← hsn]; exact hw2, fi.trans f2, ?_⟩, by simp only; omega⟩
   · show some (Value.int .i64 (IntKind.i64.wrap ((i : Int) + 1))) = some (Value.int .i64 ((i + 1 : Nat) : Int))
     rw [B4 (by unfold Bu; simp only [WS.use] at *; omega)]; rfl
   · rw [← hsn]
     have := Bq (s := s.nums ((ns.take i).map Bool.toNat)) (n := n.toNat) (by cases n <;> decide)
     simp only; omega
 · have hge : i = ns.length := by simp at hf; omega
   subst hge
   refine AV V ha ⟨rfl, Oi, fi, ?_⟩
   rw [List.take_length] at hwi; exact hwi
end Go.Sx
