import Derived.Test.YtdldhfocpandoaaGreatStD
import Derived.StillTail
import Derived.Lib.SlBytesConst
set_option maxHeartbeats 8000000
set_option maxRecDepth 8000
namespace Go.Sx
open Go.Proofs Go.Proofs.Tryz
def magicB : List UInt8 := [67, 72, 83, 76]
def D3 (x : ByteArray) : List UInt8 := num x.size ++ x.data.toList
def Bi : List ByteArray → List UInt8
 | [] => []
 | x :: l => D3 x ++ Bi l
def ws0 : WS := ⟨[], [], 0⟩
def DE (s : WS) : List UInt8 := BP (magicB ++ num s.tab.length ++ Bi s.tab ++ s.b)
def Dk (most long : Nat) (t : T) : Option (List UInt8) := (enc most long t ws0).bind fun s => if long < s.b.length then none else some (DE s)
def Lz : List ByteArray → Nat
 | [] => 0
 | x :: l => x.size + Lz l
theorem LI : ∀ (l : List ByteArray) (x : ByteArray), Lz (l ++ [x]) = Lz l + x.size
 | [], x => by simp [Lz]
 | y :: l, x => by simp only [List.cons_append, Lz, LI l x]; omega
theorem G3 : ∀ (l : List ByteArray) (x : ByteArray), Bi (l ++ [x]) = Bi l ++ D3 x
 | [], x => by simp [Bi]
 | y :: l, x => by simp only [List.cons_append, Bi, G3 l x, List.append_assoc]
theorem Jq : ∀ (l r : List ByteArray), Bi (l ++ r) = Bi l ++ Bi r
 | [], r => by simp [Bi]
 | y :: l, r => by simp only [List.cons_append, Bi, Jq l r, List.append_assoc]
theorem EF (l : List ByteArray) (j : Nat) : (Bi (l.take j)).length ≤ (Bi l).length := by
 conv => rhs; rw [← List.take_append_drop j l, Jq]
 simp
theorem DU {l : List ByteArray} {j : Nat} {x : ByteArray} (h : l[j]? = some x) : Bi (l.take (j + 1)) = Bi (l.take j) ++ D3 x := by
 rw [List.take_add_one, h, Option.toList_some, G3]
theorem EV : ∀ (l : List ByteArray), (∀ x ∈ l, x.size ≤ maxLen) → (Bi l).length ≤ 10 * l.length + Lz l
 | [], _ => by simp [Bi]
 | x :: l, h => by
  have h1 := EV l (fun y hy => h y (List.mem_cons_of_mem _ hy))
  have h2 := h x (List.mem_cons_self)
  have h3 := B_ (n := x.size) (by simp only [maxLen] at h2; omega)
  simp only [Bi, D3, Lz, List.length_append, List.length_cons, Array.length_toList]
  have : x.data.size = x.size := rfl
  omega
theorem Oz (s : WS) (x : ByteArray) : Lz (s.str x).tab ≤ Lz s.tab + x.size := by
 unfold WS.str
 split
 · exact Nat.le_add_right _ _
 · simp only [WS.num, LI]; omega
mutual
theorem JL {most long : Nat} : ∀ (t : T) (s s' : WS), enc most long t s = some s' → Lz s'.tab ≤ Lz s.tab + t.wt
 | .int n, s, s', h => by simp only [enc, Option.some.injEq] at h; subst h; exact Nat.le_add_right _ _
 | .bool b, s, s', h => by simp only [enc, Option.some.injEq] at h; subst h; exact Nat.le_add_right _ _
 | .nil, s, s', h => by simp only [enc, Option.some.injEq] at h; subst h; exact Nat.le_add_right _ _
 | .str x, s, s', h => by
  simp only [enc, Option.some.injEq] at h; subst h
  have := Oz s x
  simp only [T.wt]; omega
 | .ptr t, s, s', h => by
  simp only [enc] at h
  have := JL t _ _ h
  simp only [T.wt, WS.num] at *; omega
 | .list l, s, s', h => by
  simp only [enc] at h
  have := IM l _ _ h
  simp only [T.wt, WS.num] at *; omega
 | .agg sn l, s, s', h => by
  simp only [enc] at h
  simp only [T.wt]
  cases hd : sn.deep with
  | false =>
   rw [hd] at h
   have := IM l _ _ h
   omega
  | true =>
   rw [hd] at h
   simp only at h
   split at h
   · cases h
   · simp only [Option.map_eq_some_iff] at h
     obtain ⟨u, h1, rfl⟩ := h
     have := IM l _ _ h1
     simp only at *; omega
theorem IM {most long : Nat} : ∀ (l : List T) (s s' : WS), BU most long l s = some s' → Lz s'.tab ≤ Lz s.tab + BA l
 | [], s, s', h => by simp only [BU, Option.some.injEq] at h; subst h; omega
 | t :: l, s, s', h => by
  simp only [BU, Option.bind_eq_some_iff] at h
  obtain ⟨u, h1, h2⟩ := h
  have a := JL t _ _ h1
  have b := IM l _ _ h2
  simp only [BA]; omega
end
theorem D1 {P : Program} {fn : Func} {p q : Tmp} {t u : TypeId} (h : fn.results = #[.cell p t, .cell q u]) {tmps : Array Value} {w : World} {b c : Nat} {x y : Value}
 (h1 : tmps[p]? = some (ptr b)) (h2 : tmps[q]? = some (ptr c)) (hx : (loadVar t ⟨b, 0, none⟩).run P w = .ok x w) (hy : (loadVar u ⟨c, 0, none⟩).run P w = .ok y w) :
 (results fn tmps).run P w = .ok (.tuple #[x, y]) w := by
 simp [results, h, Array.getD_eq_getD_getElem?, h1, h2, ptr, asAddr, hx, hy]
def NN (b c : Nat) : Deferred := { target := .fn (.func 95) #[ptr b, ptr c], args := #[] ++ #[] }
section
variable {R : Value → World → Prop} {Sx : List PanicEntry → World → Prop} {w : World} {b c : Nat} {x y : Value} {m : Env} {n : Nat} {a : Act} {fn : Func}
theorem Blk.cell0 {t : TypeId} (h : Blk w b [x] t) : w.cell? ⟨b, 0, none⟩ = some x := by rw [h.cell]; rfl
theorem JV (hres : fn.results = #[.cell 6 22, .cell 7 4]) (ha : Loc n [NN b c] m a) (h6 : m.get 6 = some (ptr b)) (h7 : m.get 7 = some (ptr c)) (hb : Blk w b [x] 22) (hc : Blk w c [y] 4) (h : R (.tuple #[x, y]) w) :
 bodyPostD prog fn (Dq R Sx) .ret a w := by
 show Leaves prog fn a.tmps (Dq R Sx) a.defers .returning w
 rw [ha.defers]
 refine leaves_cons (f := 95) (args := [ptr b, ptr c].toArray) (by simp) (by simp [invoke, call95]) (d95_idle.mono ?_)
 rintro e u' w' ⟨rfl, rfl, rfl⟩
 exact ⟨_, D1 hres (ha.slot 6 _ h6) (ha.slot 7 _ h7) (A4 CG hb.cell0) (A4 Ee hc.cell0), h⟩
theorem M3 (hres : fn.results = #[.cell 6 22, .cell 7 4]) (ha : Loc n [NN b c] m a) (h6 : m.get 6 = some (ptr b)) (h7 : m.get 7 = some (ptr c)) (hb : Blk w b [x] 22) (hc : Blk w c [y] 4) (hbc : b ≠ c)
 (h : R (.tuple #[.slice none 0 0, .bool false]) (Ke w b c [.slice none 0 0] [.bool false])) :
 bodyPostD prog fn (Dq R Sx) (.panic CL) a w := by
 show Leaves prog fn a.tmps (Dq R Sx) a.defers (.panicking CL) w
 rw [ha.defers]
 refine leaves_cons (f := 95) (args := [ptr b, ptr c].toArray) (by simp) (by simp [invoke, call95]) ((O0 hb hc hbc).mono ?_)
 rintro e u' w' ⟨rfl, rfl, rfl⟩
 have hb' : Blk (Ke w b c [.slice none 0 0] [.bool false]) b [.slice none 0 0] 22 := (setRow_other _ c b _ hbc).trans (hb.setRow _)
 have hc' : Blk (Ke w b c [.slice none 0 0] [.bool false]) c [.bool false] 4 := Blk.setRow ((setRow_other _ b c _ (fun e => hbc e.symm)).trans hc) _
 exact ⟨_, D1 hres (ha.slot 6 _ h6) (ha.slot 7 _ h7) (A4 CG hb'.cell0) (A4 Ee hc'.cell0), h⟩
end
theorem Jr {w : World} {t : TypeId} : (Instr.makeMap t none).run prog w = .ok (.map (some w.heap.size)) (w.alloc (.map #[] 0)) := by
 simp [Instr.makeMap]
theorem Mn {w : World} {bm : Nat} {i j : Int} : (Instr.build 185 #[(2, .map (some bm)), (4, .int .i64 i), (5, .int .i64 j)]).run prog w = .ok (.agg [.slice none 0 0, .slice none 0 0, .map (some bm), .int .i64 0, .int .i64 i, .int .i64 j].toArray) w := by
 simp [Instr.build, zeroValue185, runUnderlying185, Value.cells, Instr.fill, sizeOf131, sizeOf3]
def SL (P : Program) (ops : Array Oper) (w : World) (Q : Act → Prop) (l : List Oper) (n : Nat) (ds : List Deferred) (m : Env) : Prop :=
 ∀ a, Loc n ds m a → wpStill P ops w Q l a
section
variable {P : Program} {ops : Array Oper} {w : World} {Q : Act → Prop} {rest : List Oper} {n : Nat} {ds : List Deferred} {m : Env} {d : Nat} {ty : TypeId} {pos : String} {aft : Array Edge}
theorem Lv {Q : Exit → Act → World → Prop} {l : List Oper} (h : WL P ops Q l n ds m w) : SL P ops w (fun a' => wpList P ops Q l a' w) [] n ds m := fun a ha => h a ha
theorem Is {o : Oper} {v : Value} (hg : o.guard = none) (hd : o.dst = some d) (hb : Nat.blt d n = true)
 (hr : ∀ a, Loc n ds m a → (execOp a.eval o).run P w = .ok (.value v) w)
 (h : SL P ops w Q rest n ds ((d, v) :: m)) : SL P ops w Q (o :: rest) n ds m := by
 intro a ha
 unfold wpStill
 rw [if_pos (by simp [Region.wanted, hg])]
 unfold Oper.still
 rw [hr a ha, Oper.stillUpon_value, hd]
 exact h _ (ha.put d v hb)
theorem Ek {x : Operand} {v : Value} (hx : ev m x = some v) (hb : Nat.blt d n = true) (h : SL P ops w Q rest n ds ((d, v) :: m)) :
 SL P ops w Q (⟨some d, .move x, ty, pos, aft, none⟩ :: rest) n ds m :=
 Is rfl rfl hb (fun a ha => by simp [execOp, ha.eval hx]) h
theorem G7 {t : TypeId} {x : Operand} {p : Addr} {v : Value} (hx : ev m x = some (.pointer (some p))) (hr : (loadVar t p).run P w = .ok v w) (hb : Nat.blt d n = true)
 (h : SL P ops w Q rest n ds ((d, v) :: m)) : SL P ops w Q (⟨some d, .load t x, ty, pos, aft, none⟩ :: rest) n ds m :=
 Is rfl rfl hb (fun a ha => by simp [execOp, ha.eval hx, Instr.loadAt, Instr.sureAddr, hr]) h
theorem CX {x : Operand} {p : Addr} (hx : ev m x = some (.pointer (some p))) (hb : Nat.blt d n = true)
 (h : SL P ops w Q rest n ds ((d, .pointer (some p)) :: m)) : SL P ops w Q (⟨some d, .nilCheck x, ty, pos, aft, none⟩ :: rest) n ds m :=
 Is rfl rfl hb (fun a ha => by simp [execOp, ha.eval hx]) h
theorem CP {s k : Nat} {x : Operand} {p q : Addr} (hx : ev m x = some (.pointer (some p))) (hr : ∀ w, (Instr.fieldAt s (.pointer (some p)) k).run P w = .ok (.pointer (some q)) w) (hb : Nat.blt d n = true)
 (h : SL P ops w Q rest n ds ((d, .pointer (some q)) :: m)) : SL P ops w Q (⟨some d, .fieldAddr s x k, ty, pos, aft, none⟩ :: rest) n ds m :=
 Is rfl rfl hb (fun a ha => by simp [execOp, ha.eval hx, hr w]) h
theorem Jp {id : Nat} {l : List Oper} {Q : Exit → Act → World → Prop} (k : Nat) (hm : P.follows .mixedOrders = true) (hB : Region.lexTailB .any l.toArray k = true)
 (h : SL P l.toArray (w.drewN 1) (fun a' => wpList P l.toArray Q (l.drop k) a' (w.drewN 1)) (l.take k) n ds m) : W P (.region id l.toArray true) Q n ds m w :=
 fun a ha => wp_region_still_tail k hm hB (h a ha)
end
structure Out (w0 w : World) (b c : Nat) (v : Value) (xs : List UInt8) : Prop where
 fr : Fr (fun k => k = b) w0 (fun k => k = b ∨ w0.heap.size ≤ k) w
 blk : Blk w b [v] 22
 row : w.ownsRow 0 5 1 v xs.length (xs.map bv)
 new : ∀ k, Bk v k → w0.heap.size ≤ k
 lt : b < w0.heap.size
theorem Out.drewn {w0 w : World} {b c : Nat} {v : Value} {xs : List UInt8} (h : Out w0 w b c v xs) (k : Nat) : Out w0 (w.drewN k) b c v xs :=
 ⟨h.fr.trans (Fr.drewn k), h.blk, AP h.row (fun _ _ => rfl), h.new, h.lt⟩
theorem Lt {w : World} {b : Nat} {v v' : Value} (h : Blk w b [v] 22) (hv : v'.cells = [v'].toArray ∧ v'.oneCell' = true) : (storeVar 22 ⟨b, 0, none⟩ v').run prog w = .ok () (w.setRow b [v'].toArray) := by
 have := BR (P := prog) (w := w) (t := 22) (n := 1) (agg := false) (b := b) (o := 0) (v := v') (vs := [v']) CG hv.1 rfl (by simpa using hv.2) h (by simp)
 rwa [EI] at this
theorem NX {w : World} {b : Nat} {v v' : Value} (h : Blk w b [v] 4) (hv : v'.cells = [v'].toArray ∧ v'.oneCell' = true) : (storeVar 4 ⟨b, 0, none⟩ v').run prog w = .ok () (w.setRow b [v'].toArray) := by
 have := BR (P := prog) (w := w) (t := 4) (n := 1) (agg := false) (b := b) (o := 0) (v := v') (vs := [v']) Ee hv.1 rfl (by simpa using hv.2) h (by simp)
 rwa [EI] at this
theorem DI {w : World} {v : Value} {n : Nat} {xs : List Value} {e : TypeId} (r : w.ownsRow 0 e 1 v n xs) : v.cells = [v].toArray ∧ v.oneCell' = true := by
 rcases r.2 with ⟨rfl, _⟩ | ⟨g, cap, cur, rfl, _⟩ <;> exact ⟨rfl, rfl⟩
theorem Out.put {w0 w w' : World} {b c : Nat} {v v' : Value} {xs ys : List UInt8} {U : Nat → Prop} (h : Out w0 w b c v xs) (f : Fr U w (Bk v') w') (hU : ∀ k, U k → Bk v k) (r : w'.ownsRow 0 5 1 v' ys.length (ys.map bv)) :
 (storeVar 22 ⟨b, 0, none⟩ v').run prog w' = .ok () (w'.setRow b [v'].toArray) ∧ Out w0 (w'.setRow b [v'].toArray) b c v' ys := by
 have hbl : b < w.heap.size := Nat.lt_of_lt_of_le h.lt h.fr.size
 have hnb : ¬ U b := fun hu => by have := h.new b (hU b hu); have := h.lt; omega
 have hblk : Blk w' b [v] 22 := (f.blk b hbl hnb).trans h.blk
 have hnew : ∀ k, Bk v' k → w0.heap.size ≤ k := by
  intro k hk
  rcases f.own k hk with h1 | h1
  · exact h.new k (hU k h1)
  · exact Nat.le_trans h.fr.size h1
 refine ⟨Lt hblk (DI r), ⟨?_, hblk.setRow _, AP r (fun k hk => setRow_other _ _ _ _ (fun e => by have := hnew k hk; have := h.lt; omega)), hnew, h.lt⟩⟩
 refine ⟨?_, ?_, ?_, ?_, ?_, fun k hk => hk⟩
 · exact f.os.trans h.fr.os
 · exact f.tape.trans h.fr.tape
 · exact f.output.trans h.fr.output
 · simp only [BB]; exact Nat.le_trans h.fr.size f.size
 · intro k hk hn
   rw [setRow_other _ _ _ _ hn, f.blk k (Nat.lt_of_lt_of_le hk h.fr.size) (fun hu => by have := h.new k (hU k hu); omega), h.fr.blk k hk hn]
theorem WSt.both {w0 : World} {S : Nat → Prop} {p most long : Nat} {s : WS} {O : Nat → Prop} {w : World} (h : WSt w0 S p most long s O w) : ∃ vb vt, w.cell? ⟨p, 0, none⟩ = some vb ∧ w.cell? ⟨p, 1, none⟩ = some vt ∧
 w.ownsRow 0 5 1 vb s.b.length (s.b.map bv) ∧ w.ownsRow 0 9 1 vt s.tab.length (s.tab.map Value.string) ∧ O p ∧ (∀ k, Bk vb k → O k) ∧ (∀ k, Bk vt k → O k) := by
 obtain ⟨vb, vt, bm, m⟩ := h.mem
 exact ⟨vb, vt, by rw [m.blk.cell]; rfl, by rw [m.blk.cell]; rfl, m.rb, m.rt, m.op, fun k hk => (m.ob k hk).1, fun k hk => (m.ot k hk).1⟩
theorem Dr {w : World} {v : Value} {n : Nat} {xs : List Value} {e : TypeId} (r : w.ownsRow 0 e 1 v n xs) : ∃ g cap, v = .slice g n cap ∧
 ∀ i x, xs[i]? = some x → ∃ b, g = some ⟨b, 0, none⟩ ∧ w.cell? ⟨b, i, none⟩ = some x ∧ Bk v b := by
 rcases r.2 with ⟨rfl, h⟩ | ⟨g, cap, cur, rfl, _, hg, _, _, _, ht⟩
 · have : xs = [] := List.eq_nil_of_length_eq_zero (by have := r.1; omega)
   subst this; subst h
   exact ⟨none, 0, rfl, by simp⟩
 · refine ⟨_, cap, rfl, fun i x hx => ⟨g, rfl, ?_, rfl⟩⟩
   rw [← ht, List.getElem?_take] at hx
   split at hx
   · simp [World.cell?, hg]; simpa using hx
   · cases hx
theorem WSt.start {w w' : World} {S : Nat → Prop} {most long : Nat} {bm p : Nat} (hp : Blk w' p [.slice none 0 0, .slice none 0 0, .map (some bm), .int .i64 0, .int .i64 most, .int .i64 long] 185) (hbm : w'.heap[bm]? = some (.map #[] 0))
 (h1 : w.heap.size ≤ bm) (h2 : w.heap.size ≤ p) (hne : p ≠ bm) (hb : bm < w'.heap.size) (hf : ∀ b, b < w.heap.size → w'.heap[b]? = w.heap[b]?) (hs : w.heap.size ≤ w'.heap.size) : WSt w S p most long ws0 (fun b => b = bm ∨ b = p) w' := by
 refine ⟨fun b _ hl => ⟨fun h => by rcases h with h | h <;> omega, hf b hl⟩, ?_, hs, ⟨.slice none 0 0, .slice none 0 0, bm, hp, World.ownsRow_nil _ _ _ _, World.ownsRow_nil _ _ _ _, ⟨#[], 0, hbm, rfl, rfl⟩, .inr rfl, .inl rfl, ?_, ?_, hne⟩, by simp [ws0], by simp [ws0]⟩
 · rintro b (rfl | rfl)
   · exact hb
   · exact hp.lt
 · intro k hk; simp [Bk, Value.ownBlock] at hk
 · intro k hk; simp [Bk, Value.ownBlock] at hk
theorem Blk.all {w : World} {b : Nat} {cs : List Value} {t : TypeId} (h : Blk w b cs t) : At w b 0 cs := by
 have := h.at_ 0 cs.length
 simpa using this
theorem Jk {w : World} : (Instr.buildSlice 22 4 #[(0, .int .u8 67), (1, .int .u8 72), (2, .int .u8 83), (3, .int .u8 76)]).run prog w = .ok (.slice (some ⟨w.heap.size, 0, none⟩) 4 4) (w.alloc (.cells (magicB.map bv).toArray 5)) :=
 Im underlying22 Kw zeroValue5 rfl rfl rfl rfl rfl
theorem K_ {w : World} : Row (w.alloc (.cells (magicB.map bv).toArray 5 ((magicB.map bv).toArray.size, (magicB.map bv).toArray.size + 1))) (.slice (some ⟨w.heap.size, 0, none⟩) 4 4) magicB := by
 refine .inr ⟨w.heap.size, rfl, by simp, ?_⟩
 intro j v hj
 have := heap_alloc_new w (.cells (magicB.map bv).toArray 5 ((magicB.map bv).toArray.size, (magicB.map bv).toArray.size + 1))
 simp only [World.cell?, this, Nat.zero_add]
 simpa using hj
end Go.Sx
namespace Go.Sx
open Go.Proofs Go.Proofs.Tryz
def Ru (w : World) (r : Option (List UInt8)) (v : Value) (w' : World) : Prop :=
 ∃ vb, v = .tuple #[vb, .bool r.isSome] ∧ Fr (fun _ => False) w (Bk vb) w' ∧
  match r with
  | some bs => w'.ownsRow 0 5 1 vb bs.length (bs.map bv)
  | none => vb = .slice none 0 0
theorem Gs {w w3 w' : World} {O O' : Nat → Prop} {v : Value} (f0 : Fr (fun _ => False) w (fun _ => False) w3) (f1 : Fr O w3 O' w') (hO : ∀ b, O b → w.heap.size ≤ b) (hv : ∀ b, Bk v b → w.heap.size ≤ b) : Fr (fun _ => False) w (Bk v) w' := by
 refine ⟨f1.os.trans f0.os, f1.tape.trans f0.tape, f1.output.trans f0.output, Nat.le_trans f0.size f1.size, fun b hb _ => ?_, fun b hb => .inr (hv b hb)⟩
 rw [f1.blk b (Nat.lt_of_lt_of_le hb f0.size) (fun h => by have := hO b h; omega), f0.blk b hb (fun h => h)]
theorem E6 (b : Nat) : ¬ Bk (.slice none 0 0) b := by simp [Bk, Value.ownBlock]
theorem Sf {w : World} {S : Nat → Prop} {t : T} {cs : List Value} {most long : Nat} (hr : Rep w S t (.st .sheet) cs) (hu : 11 * t.wt ≤ 2 ^ 40) :
 Calls prog 44 [.agg cs.toArray, .int .i64 most, .int .i64 long].toArray w (Dq (Ru w (Dk most long t)) (fun _ _ => False)) := by
 refine Eu 60 func44 V V V ?_
 refine Af (Aa (Cd V V ?_))
 have a1 : Own (fun _ => False) (w.alloc (.cells cs.toArray 36)) w.heap.size cs 36 := ⟨AN, fun h => h⟩
 have f1 : Fr (fun _ => False) w (fun _ => False) (w.alloc (.cells cs.toArray 36)) := Fr.alloc _ _ _
 have s1 : (w.alloc (.cells cs.toArray 36)).heap.size = w.heap.size + 1 := by simp
 show WL _ _ _ _ _ _ _ (w.alloc (.cells cs.toArray 36))
 generalize w.alloc (.cells cs.toArray 36) = w1 at a1 f1 s1 ⊢
 refine AO (zeroValue22 _) V ?_
 have a2 : Own (fun _ => False) (w1.alloc (.cells [.slice none 0 0].toArray 22)) w1.heap.size [.slice none 0 0] 22 := ⟨AN, fun h => h⟩
 have f2 : Fr (fun _ => False) w1 (fun _ => False) (w1.alloc (.cells [.slice none 0 0].toArray 22)) := Fr.alloc _ _ _
 have s2 : (w1.alloc (.cells [.slice none 0 0].toArray 22)).heap.size = w1.heap.size + 1 := by simp
 show WL _ _ _ _ _ _ _ (w1.alloc (.cells [.slice none 0 0].toArray 22))
 generalize w1.alloc (.cells [.slice none 0 0].toArray 22) = w2 at a2 f2 s2 ⊢
 refine AO (zeroValue4 _) V ?_
 have a3 : Own (fun _ => False) (w2.alloc (.cells [.bool false].toArray 4)) w2.heap.size [.bool false] 4 := ⟨AN, fun h => h⟩
 have f3 : Fr (fun _ => False) w2 (fun _ => False) (w2.alloc (.cells [.bool false].toArray 4)) := Fr.alloc _ _ _
 have s3 : (w2.alloc (.cells [.bool false].toArray 4)).heap.size = w2.heap.size + 1 := by simp
 show WL _ _ _ _ _ _ _ (w2.alloc (.cells [.bool false].toArray 4))
 generalize w2.alloc (.cells [.bool false].toArray 4) = w3 at a3 f3 s3 ⊢
 have b1 := (f2.trans f3).keep a1
 have b2 := f3.keep a2
 have f03 := (f1.trans f2).trans f3
 generalize hb6 : w1.heap.size = b6 at *
 generalize hb7 : w2.heap.size = b7 at *
 refine Ar [(1, .int .i64 most), (2, .int .i64 long), (3, ptr w.heap.size), (6, ptr b6), (7, ptr b7)] ⟨V, V, V, V, V, trivial⟩ ?_
 refine Af (Aa (Kj Jr V ?_))
 have f4 : Fr (fun _ => False) w3 (fun _ => False) (w3.alloc (.map #[] 0)) := Fr.alloc _ _ _
 have s4 : (w3.alloc (.map #[] 0)).heap.size = w3.heap.size + 1 := by simp
 have a4 : (w3.alloc (.map #[] 0)).heap[w3.heap.size]? = some (.map #[] 0) := heap_alloc_new _ _
 generalize w3.alloc (.map #[] 0) = w4 at f4 s4 a4 ⊢
 refine Ac V V (Ac V V (Cl V Mn V (Cd V V ?_)))
 have f5 : Fr (fun _ => False) w4 (fun _ => False) (w4.alloc (.cells [.slice none 0 0, .slice none 0 0, .map (some w3.heap.size), .int .i64 0, .int .i64 most, .int .i64 long].toArray 185)) := Fr.alloc _ _ _
 have s5 : (w4.alloc (.cells [.slice none 0 0, .slice none 0 0, .map (some w3.heap.size), .int .i64 0, .int .i64 most, .int .i64 long].toArray 185)).heap.size = w4.heap.size + 1 := by simp
 have a5 : Blk (w4.alloc (.cells [.slice none 0 0, .slice none 0 0, .map (some w3.heap.size), .int .i64 0, .int .i64 most, .int .i64 long].toArray 185)) w4.heap.size [.slice none 0 0, .slice none 0 0, .map (some w3.heap.size), .int .i64 0, .int .i64 most, .int .i64 long] 185 := AN
 show WL _ _ _ _ _ _ _ (w4.alloc (.cells [.slice none 0 0, .slice none 0 0, .map (some w3.heap.size), .int .i64 0, .int .i64 most, .int .i64 long].toArray 185))
 generalize w4.alloc (.cells [.slice none 0 0, .slice none 0 0, .map (some w3.heap.size), .int .i64 0, .int .i64 most, .int .i64 long].toArray 185) = w5 at f5 s5 a5 ⊢
 have f05 := f03.trans (f4.trans f5)
 have hst : WSt w S w4.heap.size most long ws0 (fun b => b = w3.heap.size ∨ b = w4.heap.size) w5 :=
  WSt.start a5 ((f5.blk _ (by omega) (fun h => h)).trans a4) (by omega) (by omega) (by omega) (by omega) (fun b hb => f05.blk b hb (fun h => h)) f05.size
 have c1 : Own (fun b => b = w3.heap.size ∨ b = w4.heap.size) w5 w.heap.size cs 36 := ⟨((f4.trans f5).keep b1).blk, fun h => by rcases h with h | h <;> omega⟩
 have c2 : Own (fun b => b = w3.heap.size ∨ b = w4.heap.size) w5 b6 [.slice none 0 0] 22 := ⟨((f4.trans f5).keep b2).blk, fun h => by rcases h with h | h <;> omega⟩
 have c3 : Own (fun b => b = w3.heap.size ∨ b = w4.heap.size) w5 b7 [.bool false] 4 := ⟨((f4.trans f5).keep a3).blk, fun h => by rcases h with h | h <;> omega⟩
 have hOn' : ∀ b, (b = w3.heap.size ∨ b = w4.heap.size) → w.heap.size ≤ b := fun b h => by rcases h with h | h <;> omega
 have h67 : b6 ≠ b7 := by omega
 have h6n : w.heap.size ≤ b6 := by omega
 have h7n : w.heap.size ≤ b7 := by omega
 generalize w4.heap.size = p at *
 generalize hO : (fun b => b = w3.heap.size ∨ b = p) = O at *
 have hOn : ∀ b, O b → w.heap.size ≤ b := fun b hb => by rw [← hO] at hb; exact hOn' b hb
 clear f1 f2 f3 f4 f5 s1 s2 s3 s4 s5 a1 a2 a3 a4 a5 b1 b2 f03
 refine Ah V V (Ar [(2, .int .i64 long), (3, ptr w.heap.size), (6, ptr b6), (7, ptr b7), (8, ptr p)] ⟨V, V, V, V, V, trivial⟩ ?_)
 refine Af (Aa (AH V V V (Es V (Ae ?_))))
 show W _ _ _ _ [NN b6 b7] _ _
 have hlen : cs.length = 10 := hr.st_inv.elim fun l h => h.2.1
 refine Af (Aa (Ac V V (Ai V (Bg EE hlen c1.blk.all) V (Aj call96 V V (Pj t cs hr ws0 O w5 hst (by show 0 + 11 * t.wt ≤ _; omega)) ?_ ?_))))
 rotate_left
 · rintro ch w6 ⟨rfl, he, s', O', f6, _⟩ a ha
   have d2 := f6.keep c2
   have d3 := f6.keep c3
   refine Am (M3 V ha V V d2.blk d3.blk h67 ⟨.slice none 0 0, ?_, ?_, ?_⟩)
   · simp [Dk, he]
   · refine Gs (O := fun b => w.heap.size ≤ b) (O' := fun b => w.heap.size ≤ b) f05 ?_ (fun _ h => h) (fun b h => (E6 b h).elim)
     have g : Fr (fun b => w.heap.size ≤ b) w5 (fun b => w.heap.size ≤ b) w6 := ⟨f6.os, f6.tape, f6.output, f6.size, fun b hb hn => f6.blk b hb (fun ho => hn (hOn b ho)), fun b hb => .inl hb⟩
     exact g.trans (KH h6n h7n)
   · simp [Dk, he]
 rintro _ w6 ⟨rfl, s', O', he, f6, hw6⟩
 have d2 := f6.keep c2
 have d3 := f6.keep c3
 have hO'n : ∀ b, O' b → w.heap.size ≤ b := fun b hb => (f6.own b hb).elim (hOn b) (fun h => Nat.le_trans f05.size h)
 have g6 : Fr (fun b => w.heap.size ≤ b) w5 (fun b => w.heap.size ≤ b) w6 := ⟨f6.os, f6.tape, f6.output, f6.size, fun b hb hn => f6.blk b hb (fun ho => hn (hOn b ho)), fun b hb => .inl hb⟩
 obtain ⟨hus, _⟩ := JD t ws0 s' he (by show 0 + 11 * t.wt ≤ _; omega)
 have htz := JL t ws0 s' he
 have htz' : Lz s'.tab ≤ t.wt := by simpa [ws0, Lz] using htz
 have hub : s'.b.length ≤ 2 ^ 40 ∧ s'.tab.length ≤ 2 ^ 40 := by
  have : ws0.use = 0 := rfl
  simp only [WS.use] at hus this; omega
 obtain ⟨vb, vt, e0, e1, rb, rt, hOp, hOb, hOt⟩ := hw6.both
 obtain ⟨gb, capb, rfl, _⟩ := Dr rb
 obtain ⟨gt, capt, rfl, hgt⟩ := Dr rt
 refine Ar [(2, .int .i64 long), (6, ptr b6), (7, ptr b7), (8, ptr p)] ⟨V, V, V, V, trivial⟩ ?_
 refine Af (Af (Aa (Ac V V (As V V (Ab V (Bf _ _ _) V (Ai V (A4 CG e0) V (AE V (Ay underlying22) V (Ac V V (Al V V (Cu (c := decide (long < s'.b.length)) (decide_eq_decide.2 (by omega))) V (Ae ?_)))))))))) 
 refine AK V (fun ht => ?_) (fun hf => A_ fun a ha => Ad ?_)
 · have hlt : long < s'.b.length := of_decide_eq_true ht
   have hn : Dk most long t = none := by simp [Dk, he, hlt]
   have hc7 : Blk (w6.setRow b6 [Value.slice none 0 0].toArray) b7 [.bool false] 4 := (setRow_other _ _ _ _ (fun e => h67 e.symm)).trans d3.blk
   refine Af (Aa (An V V (Lt d2.blk ⟨rfl, rfl⟩) (An V V (NX hc7 ⟨rfl, rfl⟩) (Ae (AA fun a ha => Ao (JV V ha V V (x := .slice none 0 0) (y := .bool false) ?_ ?_ ?_))))))
   · exact (setRow_other _ _ _ _ h67).trans (d2.blk.setRow _)
   · exact hc7.setRow _
   · rw [hn]
     exact ⟨_, rfl, Gs f05 (g6.trans (KH h6n h7n)) (fun _ h => h) (fun b h => (E6 b h).elim), rfl⟩
 · have hlt : ¬ long < s'.b.length := of_decide_eq_false hf
   have hs : Dk most long t = some (DE s') := by simp [Dk, he, hlt]
   rw [hs]
   refine A8 ha ?_
   refine Af (Aa (A7 V Jk V (AJ V (Go.Lib.run_convert_bytes_const w6 22 5 _ 4 4 underlying22 underlying5) V ?_)))
   have rm := K_ (w := w6)
   have fm : Fr (fun _ => False) w6 (fun _ => False) (w6.alloc (.cells (magicB.map bv).toArray 5 ((magicB.map bv).toArray.size, (magicB.map bv).toArray.size + 1))) := Fr.alloc _ _ _
   have sm : (w6.alloc (.cells (magicB.map bv).toArray 5 ((magicB.map bv).toArray.size, (magicB.map bv).toArray.size + 1))).heap.size = w6.heap.size + 1 := by simp
   generalize w6.alloc (.cells (magicB.map bv).toArray 5 ((magicB.map bv).toArray.size, (magicB.map bv).toArray.size + 1)) = w7 at rm fm sm ⊢
   have hl6 : ∀ k, O' k → k < w6.heap.size := hw6.lt
   have hp6 : p < w6.heap.size := hl6 p hOp
   have rd : ∀ {w' : World} {k : Nat}, Fr (fun k => k = b6) w6 (fun k => k = b6 ∨ w6.heap.size ≤ k) w' → O' k → w'.heap[k]? = w6.heap[k]? := fun f hk => f.blk _ (hl6 _ hk) (fun e => d2.out (e ▸ hk))
   have e1' : w7.cell? ⟨p, 1, none⟩ = some (.slice gt s'.tab.length capt) := by rw [World.cell?_of_block (w := w6) (fm.blk p hp6 (fun h => h))]; exact e1
   refine Ac V V (As V V (Ab V (EM _ _ _) V (Ai V (A4 FG e1') V (AE V (Ay underlying44) V (AJ V (Bv runUnderlying3 runUnderlying164) V ?_)))))
   rw [Bz (by omega) (by omega)]
   refine Aj call97 V V (Qs rm (by omega) (by have := B_ (n := s'.tab.length) (by omega); have : magicB.length = 4 := rfl; omega)) ?_ Be
   rintro v8 w8 ⟨r8, f8⟩
   have hn8 : ∀ k, Bk v8 k → w6.heap.size ≤ k := by
    intro k hk
    rcases f8.own k hk with h1 | h1
    · have : w6.heap.size = k := by simpa [Bk, Value.ownBlock] using h1
      omega
    · omega
   have hb6 : b6 < w6.heap.size := d2.blk.lt
   have hno6 : ¬ Bk (.slice (some ⟨w6.heap.size, 0, none⟩) 4 4) b6 := fun h => by
    have : w6.heap.size = b6 := by simpa [Bk, Value.ownBlock] using h
    omega
   have hblk8 : Blk w8 b6 [.slice none 0 0] 22 := (f8.blk b6 (by omega) hno6).trans ((fm.blk b6 hb6 (fun h => h)).trans d2.blk)
   have out0 : Out w6 (w8.setRow b6 [v8].toArray) b6 b7 v8 (magicB ++ num s'.tab.length) := by
    refine ⟨⟨f8.os.trans fm.os, f8.tape.trans fm.tape, f8.output.trans fm.output, by simp only [BB]; have := f8.size; omega, ?_, fun k hk => hk⟩, hblk8.setRow _, AP r8 (fun k hk => setRow_other _ _ _ _ (fun e => by have := hn8 k hk; omega)), hn8, hb6⟩
    intro k hk hn
    rw [setRow_other _ _ _ _ hn, f8.blk k (by omega) (fun h => by
     have : w6.heap.size = k := by simpa [Bk, Value.ownBlock] using h
     omega), fm.blk k hk (fun h => h)]
   refine An V V (Lt hblk8 (DI r8)) (Ar [(6, ptr b6), (7, ptr b7), (8, ptr p)] ⟨V, V, V, trivial⟩ ?_)
   generalize w8.setRow b6 [v8].toArray = w9 at out0 ⊢
   clear rm fm sm e1' r8 f8 hn8 hblk8 hno6
   refine B9 (ι := Value) (fun _ => [(6, ptr b6), (7, ptr b7), (8, ptr p)]) (fun v w' => Out w6 w' b6 b7 v (magicB ++ num s'.tab.length ++ Bi s'.tab)) ?_ ?_
   · have e1' : w9.cell? ⟨p, 1, none⟩ = some (.slice gt s'.tab.length capt) := by rw [World.cell?_of_block (w := w6) (rd out0.fr hOp)]; exact e1
     refine Af (Aa (Ac V V (As V V (Ab V (EM _ _ _) V (Ai V (A4 FG e1') V (AE V (Ay underlying44) V (Ac V V (Ae ?_))))))))
     have hel := EV s'.tab hw6.tabs
     refine A1 (AW (ι := Nat × Value) (fun i => [(6, ptr b6), (7, ptr b7), (8, ptr p), (39, .slice gt s'.tab.length capt), (40, .int .i64 s'.tab.length), (41, .int .i64 i.1)])
      (fun i w' => i.1 ≤ s'.tab.length ∧ Out w6 w' b6 b7 i.2 (magicB ++ num s'.tab.length ++ Bi (s'.tab.take i.1))) (fun i => s'.tab.length - i.1) (0, v8)
      ⟨V, V, V, V, V, V, trivial⟩ ⟨Nat.zero_le _, by simpa [Bi] using out0⟩ ?_)
     rintro ⟨j, v⟩ w' ⟨hj, out⟩
     simp only at hj out ⊢
     refine Af (Aa (Al V V V V (Ae (Af ?_))))
     refine AK V (fun ht => A_ fun a ha => Ad ?_) (fun hf => AQ fun a ha => Aq (Aq (A3 (Ad ?_))))
     · have hlt : j < s'.tab.length := by simp at ht; omega
       obtain ⟨x, hx⟩ : ∃ x, s'.tab[j]? = some x := ⟨_, List.getElem?_eq_getElem hlt⟩
       have hxs : x.size ≤ maxLen := hw6.tabs x (List.mem_of_getElem? hx)
       obtain ⟨bt, rfl, hcell, hown⟩ := hgt j (.string x) (by simp [hx])
       have hcell' : w'.cell? ⟨bt, 0 + j * 1, none⟩ = some (.string x) := by
        rw [World.cell?_of_block (w := w6) (rd out.fr (hOt bt hown)), Nat.zero_add, Nat.mul_one]; exact hcell
       have hi : ∀ w, (Instr.indexAt 44 (.slice (some ⟨bt, 0, none⟩) s'.tab.length capt) (.int .i64 j)).run prog w = .ok (.pointer (some ⟨bt, 0 + j * 1, none⟩)) w := fun w => by
        have := Bp (P := prog) (w := w) (b := bt) (o := 0) (cap := capt) (i := (j : Int)) underlying44 MM (by omega) (by omega : (j : Int) < (s'.tab.length : Nat))
        rwa [Int.toNat_natCast] at this
       have hnx : (num x.size).length ≤ 10 := B_ (by simp only [maxLen] at hxs; omega)
       have hnt : (num s'.tab.length).length ≤ 10 := B_ (by omega)
       have hem := EF s'.tab j
       have hem2 := EF s'.tab (j + 1)
       rw [DU hx] at hem2
       have hm4 : magicB.length = 4 := rfl
       have hen : (D3 x).length = (num x.size).length + x.size := by simp only [D3, List.length_append, Array.length_toList]; rfl
       refine A8 ha (Af (A1 (Af (Aa (A0 V V (hi _) V (Ai V (A4 MM hcell') V (Ah V V (Ae ?_))))))))
       refine Aa (Ai V (A4 CG out.blk.cell0) V (Ac V V (AE V (GL underlying9) V (AJ V (Bv runUnderlying3 runUnderlying164) V ?_))))
       rw [Bz (by omega) (by simp only [maxLen] at hxs; omega)]
       refine Aj call97 V V (JN out.row (by simp only [maxLen] at hxs; omega) (by simp only [List.length_append]; omega)) ?_ Be
       rintro v1 w1' ⟨r1, g1⟩
       obtain ⟨v2, w2', hr2, r2, g2⟩ := BC (w := w1') (ty := 22) (ys := x.data.toList) r1 (Src.ofString _ underlying9 x) (by
        rw [List.length_append, hen] at hem2
        simp only [List.length_append, Array.length_toList]
        have : x.data.size = x.size := rfl
        omega)
       obtain ⟨hst2, out2⟩ := out.put (g1.trans g2) (fun _ h => h) r2
       refine Ac V V (AU V V hr2 V (An V V hst2 (A2 fun a ha => Az (Ad ?_))))
       refine A8 ha (Aa (Al V V V V (Ac V V (A2 fun a ha => Ad ?_))))
       refine ⟨(j + 1, v2), ha.weak ⟨rfl, rfl, rfl, rfl, rfl, by show some _ = some _; rw [AS (by omega)], trivial⟩, ⟨hlt, ?_⟩, by simp only; omega⟩
       simp only [DU hx, D3]
       simpa only [List.append_assoc] using out2
     · have : j = s'.tab.length := by simp at hf; omega
       subst this
       rw [List.take_length] at out
       exact ⟨v, ha.weak ⟨V, V, V, trivial⟩, out⟩
   · intro v10 w10 out
     have hel := EV s'.tab hw6.tabs
     have hnt : (num s'.tab.length).length ≤ 10 := B_ (by omega)
     have hm4 : magicB.length = 4 := rfl
     have out' := out.drewn 1
     refine Af (Jp 5 CE (by kernel_rfl) ?_)
     simp only [List.take_succ_cons, List.take_zero, List.drop_succ_cons, List.drop_zero]
     generalize w10.drewN 1 = w11 at out' ⊢
     have e0' : w11.cell? ⟨p, 0, none⟩ = some (.slice gb s'.b.length capb) := by rw [World.cell?_of_block (w := w6) (rd out'.fr hOp)]; exact e0
     have rb' := AP rb (fun k hk => rd out'.fr (hOb k hk))
     refine G7 V (A4 CG out'.blk.cell0) V ?_
     refine Ek V V ?_
     refine CX V V ?_
     refine CP (p := ⟨p, 0, none⟩) (q := ⟨p, 0, none⟩) V ?_ V ?_
     · intro w'; exact Bf w' p 0
     refine G7 V (A4 CG e0') V ?_
     refine Lv ?_
     obtain ⟨v2, w12, hr2, r2, g2⟩ := BC (ty := 22) out'.row (BH rb').src (by simp only [List.length_append]; omega)
     have hl28 : (magicB ++ num s'.tab.length ++ Bi s'.tab ++ s'.b).length ≤ 2 ^ 45 := by simp only [List.length_append]; omega
     refine AU V V hr2 V (Aj call28 V V (RP r2 hl28) ?_ Be)
     rintro v3 w13 ⟨r3, g3⟩
     obtain ⟨hst, out3⟩ := out'.put (g2.trans g3) (fun _ h => h) r3
     have h7l : b7 < w6.heap.size := d3.blk.lt
     have hb7 : Blk (w13.setRow b6 [v3].toArray) b7 [.bool false] 4 := (out3.fr.blk b7 h7l (fun e => h67 e.symm)).trans d3.blk
     refine An V V hst (An V V (NX hb7 ⟨rfl, rfl⟩) (Ae (AA fun a ha => JV V ha V V (x := v3) (y := .bool true) ?_ ?_ ?_)))
     · exact (setRow_other _ _ _ _ h67).trans out3.blk
     · exact hb7.setRow _
     · refine ⟨_, rfl, ?_, ?_⟩
       · refine Gs (O := fun b => w.heap.size ≤ b) (O' := fun b => w.heap.size ≤ b) f05 (g6.trans ?_) (fun _ h => h) (fun k hk => ?_)
         · have hf := out3.fr
           have h6w := Nat.le_trans f05.size g6.size
           refine Fr.trans (O' := fun b => w.heap.size ≤ b) ⟨hf.os, hf.tape, hf.output, hf.size, fun k hk hn => hf.blk k hk (fun e => hn (e ▸ h6n)), fun k hk => .inl hk⟩ (Fr.setRow _ h7n)
         · have := out3.new k hk
           have h6w := Nat.le_trans f05.size g6.size
           omega
       · refine AP out3.row (fun k hk => setRow_other _ _ _ _ (fun e => by have := out3.new k hk; omega))
end Go.Sx
namespace Go.Sx
open Go.Proofs Go.Proofs.Tryz
def CH (t : T) : Option (List UInt8) := (Dk 1000 16777216 t).bind fun bs => if 16777216 < bs.length then none else some bs
def Pn (w : World) (r : Option (List UInt8)) (v : Value) (w' : World) : Prop :=
 ∃ vb, Fr (fun _ => False) w (Bk vb) w' ∧
  match r with
  | some bs => v = .tuple #[vb, .int .i64 0] ∧ w'.ownsRow 0 5 1 vb bs.length (bs.map bv)
  | none => v = .tuple #[vb, .int .i64 2] ∧ vb = .slice none 0 0
theorem Fr.fresh_trans {w w1 w2 : World} {U U' : Nat → Prop} (f : Fr (fun _ => False) w U w1) (g : Fr (fun _ => False) w1 U' w2) : Fr (fun _ => False) w U' w2 := by
 refine ⟨g.os.trans f.os, g.tape.trans f.tape, g.output.trans f.output, Nat.le_trans f.size g.size, fun b hb _ => ?_, fun b hb => .inr ?_⟩
 · rw [g.blk b (Nat.lt_of_lt_of_le hb f.size) (fun h => h), f.blk b hb (fun h => h)]
 · exact (g.own b hb).elim (fun h => h.elim) (fun h => Nat.le_trans f.size h)
theorem Fr.none {w w1 : World} {U : Nat → Prop} (f : Fr (fun _ => False) w U w1) : Fr (fun _ => False) w (fun _ => False) w1 := ⟨f.os, f.tape, f.output, f.size, f.blk, fun _ h => h.elim⟩
theorem G8 : Bk (.slice Option.none 0 0) = fun _ => False := by
 funext b; simp [Bk, Value.ownBlock]
theorem Rep.fresh {w w' : World} {S U : Nat → Prop} {t : T} {f : Ty} {cs : List Value} (h : Rep w S t f cs) (g : Fr (fun _ => False) w U w') : Rep w' S t f cs :=
 Rep.agree (fun b hb hl => ⟨hb, Nat.lt_of_lt_of_le hl g.size, g.blk b hl (fun h => h)⟩) _ _ _ h
theorem RI {w : World} {S : Nat → Prop} {t : T} {cs : List Value} (hr : Rep w S t (.st .sheet) cs) (hu : 11 * t.wt ≤ 2 ^ 40) :
 Calls prog 23 [.agg cs.toArray].toArray w (Dq (Pn w (CH t)) (fun _ _ => False)) := by
 have hlen : cs.length = 10 := hr.st_inv.elim fun l h => h.2.1
 refine AB 19 func23 V V V ?_
 refine Af (Aa (Cd V V ?_))
 have a1 : Blk (w.alloc (.cells cs.toArray 36)) w.heap.size cs 36 := AN
 have f1 : Fr (fun _ => False) w (fun _ => False) (w.alloc (.cells cs.toArray 36)) := Fr.alloc _ _ _
 show WL _ _ _ _ _ _ _ (w.alloc (.cells cs.toArray 36))
 generalize w.alloc (.cells cs.toArray 36) = w1 at a1 f1 ⊢
 refine Ah V V (Ah V V (Ae ?_))
 refine Af (Aa (Ai V (Bg EE hlen a1.all) V (Aj call44 V V (Sf (most := 1000) (long := 16777216) (hr.fresh f1) hu) ?_ Be)))
 rintro _ w2 ⟨vb, rfl, f2, h2⟩
 have f12 := f1.fresh_trans f2
 refine Ac V V (Cn V V V (Cn V V V (Ah V V (Ah V V (Ar [(4, vb), (5, .bool (Dk 1000 16777216 t).isSome)] ⟨V, V, trivial⟩ ?_)))))
 unfold CH
 cases hb : Dk 1000 16777216 t with
 | none =>
  rw [hb] at h2
  subst h2
  refine Af (Af (Aa (Ac V V (Bt V V (Ac V V ?_)))))
  refine B6 (j := 2) V V V V V (B6 (j := 2) V V V V V (B6 (j := 2) V V V V V (AI V V V (Ae ?_))))
  refine Ax V (Af (Aa (Ah V V (Ah V V (Ae (AA fun a ha => Ao (Ea V ha V V ⟨_, ?_, rfl, rfl⟩)))))))
  exact f12
 | some bs =>
  rw [hb] at h2
  obtain ⟨g, cap, rfl, _⟩ := Dr h2
  refine Af (Af (Aa (Ac V V (Bt V V (Ac V V ?_)))))
  refine Ag (j := 2) V V V (Ac V V (Ag (j := 2) V V V (AE V (Ay underlying22) V (Ag (j := 2) V V V (Al V V (Cu (c := decide (16777216 < bs.length)) (decide_eq_decide.2 (by omega))) V (AI V V V (Ae ?_)))))))
  refine AK V (fun ht => Af (Aa (Ah V V (Ah V V (Ae (AA fun a ha => Ao (Ea V ha V V ⟨.slice none 0 0, ?_, ?_⟩))))))) (fun hf => A_ fun a ha => Ad ?_)
  · rw [G8]; exact f12.none
  · have : 16777216 < bs.length := of_decide_eq_true ht
    simp [this]
  · have : ¬ 16777216 < bs.length := of_decide_eq_false hf
    refine A8 ha (Af (Aa (Ac V V (Ah V V (Ah V V (Ae (AA fun a ha => Ea V ha V V ⟨_, f12, ?_⟩)))))))
    simp [this, h2]
end Go.Sx
namespace Go.Sx
def KB : List UInt8 → List UInt8 → Option (List UInt8)
 | [], b => some b
 | _ :: _, [] => none
 | x :: xs, y :: ys => if x = y then KB xs ys else none
theorem IZ : ∀ (a b r : List UInt8), KB a b = some r ↔ b = a ++ r
 | [], b, r => by simp [KB]
 | x :: xs, [], r => by simp [KB]
 | x :: xs, y :: ys, r => by
  simp only [KB, List.cons_append, List.cons.injEq]
  split
  · rename_i h; rw [IZ xs ys r]; exact ⟨fun e => ⟨h.symm, e⟩, fun e => e.2⟩
  · rename_i h; exact ⟨fun e => (nomatch e), fun e => (h e.1.symm).elim⟩
theorem Fi {a b : Nat} (ha : a < 256) (hb : b < 256) (h : a.toUInt8 = b.toUInt8) : a = b := by
 have h1 : a.toUInt8.toNat = a := by simp [Nat.toUInt8, Nat.mod_eq_of_lt ha]
 have h2 : b.toUInt8.toNat = b := by simp [Nat.toUInt8, Nat.mod_eq_of_lt hb]
 rw [← h1, ← h2, h]
theorem Lh : ∀ (m m' : Nat) (r r' : List UInt8), num m ++ r = num m' ++ r' → m = m' ∧ r = r' := by
 intro m
 induction m using Nat.strongRecOn with
 | _ m ih =>
  intro m' r r' h
  by_cases h1 : m < 128
  · rw [DO h1] at h
    by_cases h2 : m' < 128
    · rw [DO h2] at h
      simp only [List.cons_append, List.nil_append, List.cons.injEq] at h
      exact ⟨Fi (by omega) (by omega) h.1, h.2⟩
    · rw [Hq (by omega)] at h
      simp only [List.cons_append, List.nil_append, List.cons.injEq] at h
      have := Fi (by omega) (by omega) h.1; omega
  · rw [Hq (by omega)] at h
    by_cases h2 : m' < 128
    · rw [DO h2] at h
      simp only [List.cons_append, List.nil_append, List.cons.injEq] at h
      have := Fi (by omega) (by omega) h.1; omega
    · rw [Hq (n := m') (by omega)] at h
      simp only [List.cons_append, List.cons.injEq] at h
      have e1 := Fi (by omega) (by omega) h.1
      have e2 := ih (m / 128) (by omega) (m' / 128) r r' h.2
      exact ⟨by omega, e2.2⟩
structure RS where
 b : List UInt8
 tab : List ByteArray
 used : Nat
 nest : Nat
def RS.eat (s : RS) (n : Nat) : Option RS := (KB (num n) s.b).map fun r => { s with b := r }
theorem RS.eat_iff {s s' : RS} {n : Nat} : s.eat n = some s' ↔ s.b = num n ++ s'.b ∧ s' = { s with b := s'.b } := by
 simp only [RS.eat, Option.map_eq_some_iff]
 constructor
 · rintro ⟨r, h, rfl⟩; exact ⟨(IZ _ _ _).1 h, rfl⟩
 · rintro ⟨h1, h2⟩; exact ⟨s'.b, (IZ _ _ _).2 h1, h2.symm⟩
theorem CD {s a a' : RS} {n m : Nat} (h : s.eat n = some a) (h' : s.eat m = some a') : n = m ∧ a = a' := by
 obtain ⟨h1, h2⟩ := RS.eat_iff.1 h
 obtain ⟨h3, h4⟩ := RS.eat_iff.1 h'
 obtain ⟨e1, e2⟩ := Lh _ _ _ _ (h1.symm.trans h3)
 exact ⟨e1, by rw [h2, h4, e2]⟩
theorem Jd (n : Int) : Bu n ↔ (-9223372036854775808 ≤ n ∧ n ≤ 9223372036854775807) := Iff.rfl
mutual
def CK : T → Ty → RS → Option RS
 | .int n, .int, s => if -9223372036854775808 ≤ n ∧ n ≤ 9223372036854775807 then s.eat (GU n) else none
 | .bool b, .bool, s => s.eat b.toNat
 | .str x, .str, s => match s.tab.findIdx? (fun y => decide (y = x)) with
  | some k => if k ≤ s.used then (s.eat k).map fun s' => { s' with used := max s.used (k + 1) } else none
  | none => none
 | .list l, .list e, s => (s.eat l.length).bind fun s' => if l.length ≤ s'.b.length then DD l e s' else none
 | .nil, .ptr _, s => s.eat 0
 | .ptr t, .ptr e, s => (s.eat 1).bind fun s' => CK t e s'
 | .agg sn l, .st sn', s =>
  if sn = sn' then
   match sn'.deep with
   | true => if 1000 < s.nest + 1 then none else (BT l sn'.fields { s with nest := s.nest + 1 }).map fun s' => { s' with nest := s.nest }
   | false => BT l sn'.fields s
  else none
 | _, _, _ => none
def DD : List T → Ty → RS → Option RS
 | [], _, s => some s
 | t :: l, e, s => (CK t e s).bind fun s' => DD l e s'
def BT : List T → List Ty → RS → Option RS
 | [], [], s => some s
 | t :: l, f :: fs, s => (CK t f s).bind fun s' => BT l fs s'
 | _, _, _ => none
end
theorem MZ {a b : Int} (ha : Bu a) (hb : Bu b) (h : GU a = GU b) : a = b := by
 unfold GU at h; unfold Bu at ha hb
 split at h <;> split at h <;> omega
mutual
theorem G9 : ∀ (t t' : T) (f : Ty) (s a b : RS), CK t f s = some a → CK t' f s = some b → t = t' ∧ a = b
 | .int n, t', f, s, a, b, h, h' => by
  cases f <;> simp only [CK] at h <;> try cases h
  cases t' <;> simp only [CK] at h' <;> try cases h'
  split at h
  · rename_i h1
    split at h'
    · rename_i h2
      have := CD h h'
      exact ⟨by rw [MZ h1 h2 this.1], this.2⟩
    · cases h'
  · cases h
 | .bool n, t', f, s, a, b, h, h' => by
  cases f <;> simp only [CK] at h <;> try cases h
  cases t' <;> simp only [CK] at h' <;> try cases h'
  have := CD h h'
  refine ⟨?_, this.2⟩
  rename_i b'
  cases n <;> cases b' <;> first | rfl | (exact absurd this.1 (by decide))
 | .str x, t', f, s, a, b, h, h' => by
  cases f <;> simp only [CK] at h <;> try cases h
  cases t' <;> simp only [CK] at h' <;> try cases h'
  rename_i y
  cases hx : s.tab.findIdx? (fun z => decide (z = x)) with
  | none => rw [hx] at h; cases h
  | some k =>
   cases hy : s.tab.findIdx? (fun z => decide (z = y)) with
   | none => rw [hy] at h'; cases h'
   | some k' =>
    rw [hx] at h; rw [hy] at h'
    simp only at h h'
    split at h
    · split at h'
      · simp only [Option.map_eq_some_iff] at h h'
        obtain ⟨u, hu, rfl⟩ := h
        obtain ⟨u', hu', rfl⟩ := h'
        obtain ⟨e1, e2⟩ := CD hu hu'
        subst e1 e2
        have k1 := (Ex hx).2
        have k2 := (Ex hy).2
        rw [k1] at k2
        exact ⟨by rw [Option.some.inj k2], rfl⟩
      · cases h'
    · cases h
 | .nil, t', f, s, a, b, h, h' => by
  cases f <;> simp only [CK] at h <;> try cases h
  cases t' <;> simp only [CK] at h' <;> try cases h'
  · exact ⟨rfl, (CD h h').2⟩
  · simp only [Option.bind_eq_some_iff] at h'
    obtain ⟨u, hu, _⟩ := h'
    have := (CD h hu).1; omega
 | .ptr t, t', f, s, a, b, h, h' => by
  cases f <;> simp only [CK] at h <;> try cases h
  simp only [Option.bind_eq_some_iff] at h
  obtain ⟨u, hu, h⟩ := h
  cases t' <;> simp only [CK] at h' <;> try cases h'
  · have := (CD h' hu).1; omega
  · simp only [Option.bind_eq_some_iff] at h'
    obtain ⟨u', hu', h'⟩ := h'
    obtain ⟨_, rfl⟩ := CD hu hu'
    have := G9 t _ _ u a b h h'
    exact ⟨by rw [this.1], this.2⟩
 | .list l, t', f, s, a, b, h, h' => by
  cases f <;> simp only [CK] at h <;> try cases h
  simp only [Option.bind_eq_some_iff] at h
  obtain ⟨u, hu, h⟩ := h
  cases t' <;> simp only [CK] at h' <;> try cases h'
  simp only [Option.bind_eq_some_iff] at h'
  obtain ⟨u', hu', h'⟩ := h'
  obtain ⟨e, rfl⟩ := CD hu hu'
  split at h
  · split at h'
    · have := LL l _ _ u a b e h h'
      exact ⟨by rw [this.1], this.2⟩
    · cases h'
  · cases h
 | .agg sn l, t', f, s, a, b, h, h' => by
  cases f <;> simp only [CK] at h <;> try cases h
  cases t' <;> simp only [CK] at h' <;> try cases h'
  split at h
  · rename_i e1
    split at h'
    · rename_i e2
      subst e1 e2
      generalize hd : SN.deep _ = d at h h'
      cases d with
      | false =>
       have := JY l _ _ s a b h h'
       exact ⟨by rw [this.1], this.2⟩
      | true =>
       simp only at h h'
       split at h
       · cases h
       · rename_i hn
         rw [if_neg hn] at h'
         simp only [Option.map_eq_some_iff] at h h'
         obtain ⟨u, hu, rfl⟩ := h
         obtain ⟨u', hu', rfl⟩ := h'
         have := JY l _ _ _ u u' hu hu'
         exact ⟨by rw [this.1], by rw [this.2]⟩
    · cases h'
  · cases h
theorem LL : ∀ (l l' : List T) (e : Ty) (s a b : RS), l.length = l'.length → DD l e s = some a → DD l' e s = some b → l = l' ∧ a = b
 | [], l', e, s, a, b, hl, h, h' => by
  have : l' = [] := List.eq_nil_of_length_eq_zero hl.symm
  subst this
  simp only [DD, Option.some.injEq] at h h'
  exact ⟨rfl, h.symm.trans h'⟩
 | t :: l, [], e, s, a, b, hl, h, h' => by simp at hl
 | t :: l, t' :: l', e, s, a, b, hl, h, h' => by
  simp only [DD, Option.bind_eq_some_iff] at h h'
  obtain ⟨u, hu, h⟩ := h
  obtain ⟨u', hu', h'⟩ := h'
  obtain ⟨rfl, rfl⟩ := G9 t t' e s u u' hu hu'
  obtain ⟨rfl, rfl⟩ := LL l l' e u a b (by simpa using hl) h h'
  exact ⟨rfl, rfl⟩
theorem JY : ∀ (l l' : List T) (fs : List Ty) (s a b : RS), BT l fs s = some a → BT l' fs s = some b → l = l' ∧ a = b
 | [], l', fs, s, a, b, h, h' => by
  cases fs with
  | nil =>
   simp only [BT, Option.some.injEq] at h
   cases l' with
   | nil => simp only [BT, Option.some.injEq] at h'; exact ⟨rfl, h.symm.trans h'⟩
   | cons x y => simp only [BT] at h'; cases h'
  | cons f fs => simp only [BT] at h; cases h
 | t :: l, l', fs, s, a, b, h, h' => by
  cases fs with
  | nil => simp only [BT] at h; cases h
  | cons f fs =>
   cases l' with
   | nil => simp only [BT] at h'; cases h'
   | cons t' l' =>
    simp only [BT, Option.bind_eq_some_iff] at h h'
    obtain ⟨u, hu, h⟩ := h
    obtain ⟨u', hu', h'⟩ := h'
    obtain ⟨rfl, rfl⟩ := G9 t t' f s u u' hu hu'
    obtain ⟨rfl, rfl⟩ := JY l l' fs u a b h h'
    exact ⟨rfl, rfl⟩
end
def L1 (f : Ty) (s : RS) : Prop := ∀ t, CK t f s = none
theorem K9 : ∀ (l : List T) (e : Ty) (t : T) (s : RS), DD (l ++ [t]) e s = (DD l e s).bind fun s' => CK t e s'
 | [], e, t, s => by simp only [List.nil_append, DD, Option.bind_some]; cases CK t e s <;> rfl
 | x :: l, e, t, s => by
  simp only [List.cons_append, DD]
  cases CK x e s with
  | none => rfl
  | some u => simp only [Option.bind_some, K9 l e t u]
theorem Jj : ∀ (l : List T) (fs : List Ty) (t : T) (f : Ty) (s s1 : RS), BT l fs s = some s1 → BT (l ++ [t]) (fs ++ [f]) s = CK t f s1
 | [], [], t, f, s, s1, h => by
  simp only [BT, Option.some.injEq] at h; subst h
  simp only [List.nil_append, BT]; cases CK t f s <;> rfl
 | [], f' :: fs, t, f, s, s1, h => by simp only [BT] at h; cases h
 | x :: l, [], t, f, s, s1, h => by simp only [BT] at h; cases h
 | x :: l, f' :: fs, t, f, s, s1, h => by
  simp only [BT, Option.bind_eq_some_iff] at h
  obtain ⟨u, hu, h⟩ := h
  simp only [List.cons_append, BT, hu, Option.bind_some]
  exact Jj l fs t f u s1 h
theorem KT : ∀ (l : List T) (e : Ty) (s s1 : RS), DD l e s = some s1 → L1 e s1 → ∀ l', l.length < l'.length → DD l' e s = none
 | [], e, s, s1, h, hb, l', hl => by
  simp only [DD, Option.some.injEq] at h; subst h
  cases l' with
  | nil => simp at hl
  | cons t l' => simp only [DD, hb t]; rfl
 | t :: l, e, s, s1, h, hb, l', hl => by
  simp only [DD, Option.bind_eq_some_iff] at h
  obtain ⟨u, hu, h⟩ := h
  cases l' with
  | nil => simp at hl
  | cons t' l' =>
   simp only [DD]
   cases hc : CK t' e s with
   | none => rfl
   | some u' =>
    obtain ⟨rfl, rfl⟩ := G9 _ _ _ _ _ _ hu hc
    exact KT l e u s1 h hb l' (by simpa using hl)
theorem HG : ∀ (l : List T) (fs : List Ty) (f : Ty) (gs : List Ty) (s s1 : RS), BT l fs s = some s1 → L1 f s1 → ∀ l', BT l' (fs ++ f :: gs) s = none
 | [], [], f, gs, s, s1, h, hb, l' => by
  simp only [BT, Option.some.injEq] at h; subst h
  cases l' with
  | nil => rfl
  | cons t l' => simp only [List.nil_append, BT, hb t]; rfl
 | [], f' :: fs, f, gs, s, s1, h, hb, l' => by simp only [BT] at h; cases h
 | x :: l, [], f, gs, s, s1, h, hb, l' => by simp only [BT] at h; cases h
 | x :: l, f' :: fs, f, gs, s, s1, h, hb, l' => by
  simp only [BT, Option.bind_eq_some_iff] at h
  obtain ⟨u, hu, h⟩ := h
  cases l' with
  | nil => rfl
  | cons t' l' =>
   simp only [List.cons_append, BT]
   cases hc : CK t' f' s with
   | none => rfl
   | some u' =>
    obtain ⟨rfl, rfl⟩ := G9 _ _ _ _ _ _ hu hc
    exact HG l fs f gs u s1 h hb l'
theorem Pu {sn : SN} {l : List T} {fs gs : List Ty} {f : Ty} {s s1 : RS} (hd : sn.deep = false) (hf : sn.fields = fs ++ f :: gs) (h : BT l fs s = some s1) (hb : L1 f s1) : L1 (.st sn) s := by
 intro t
 cases t <;> simp only [CK]
 split
 · rw [hd]; simp only; rw [hf]; exact HG _ _ _ _ _ _ h hb _
 · rfl
theorem Ca {sn : SN} {l : List T} {fs gs : List Ty} {f : Ty} {s s1 : RS} (hd : sn.deep = true) (hf : sn.fields = fs ++ f :: gs) (h : BT l fs { s with nest := s.nest + 1 } = some s1) (hb : L1 f s1) : L1 (.st sn) s := by
 intro t
 cases t <;> simp only [CK]
 split
 · rw [hd]; simp only
   split
   · rfl
   · rw [hf, HG _ _ _ _ _ _ h hb _]; rfl
 · rfl
theorem Km {sn : SN} {s : RS} (hd : sn.deep = true) (h : 1000 < s.nest + 1) : L1 (.st sn) s := by
 intro t
 cases t <;> simp only [CK]
 rw [hd]; simp only [if_pos h, ite_self]
theorem good_st {sn : SN} {l : List T} {s s1 : RS} (hd : sn.deep = false) (h : BT l sn.fields s = some s1) : CK (.agg sn l) (.st sn) s = some s1 := by
 simp only [CK, if_true, hd, h]
theorem good_deep {sn : SN} {l : List T} {s s1 : RS} (hd : sn.deep = true) (hn : ¬ 1000 < s.nest + 1) (h : BT l sn.fields { s with nest := s.nest + 1 } = some s1) : CK (.agg sn l) (.st sn) s = some { s1 with nest := s.nest } := by
 simp only [CK, if_true, hd, h, if_neg hn, Option.map_some]
end Go.Sx
namespace Go.Sx
open Go.Proofs Go.Proofs.Tryz
structure N5 (n0 p : Nat) (s : RS) (w : World) (vb vt : Value) : Prop where
 blk : Blk w p [vb, vt, .int .i64 s.used, .int .i64 s.nest] 92
 bts : Bts w vb s.b
 nb : ∀ k, Bk vb k → k < n0 ∧ k ≠ p
 row : w.ownsRow 0 9 1 vt s.tab.length (s.tab.map Value.string)
 nt : ∀ k, Bk vt k → k < n0 ∧ k ≠ p
structure RSt (n0 p : Nat) (s : RS) (w : World) : Prop where
 lp : p < n0
 ln : n0 ≤ w.heap.size
 mem : ∃ vb vt, N5 n0 p s w vb vt
 nodup : s.tab.Nodup
 tabs : ∀ x ∈ s.tab, x.size ≤ maxLen
 sb : s.b.length ≤ 2 ^ 25
 st : s.tab.length ≤ 2 ^ 25
 su : s.used ≤ s.tab.length
 sn : s.nest ≤ 1001
abbrev only (p : Nat) : Nat → Prop := fun b => b = p
section
variable {n0 p : Nat} {s : RS} {w : World}
theorem Bts.keepB {w w' : World} {v : Value} {bs : List UInt8} (h : Bts w v bs) (hs : w.heap.size ≤ w'.heap.size) (hb : ∀ b, Bk v b → w'.heap[b]? = w.heap[b]?) : Bts w' v bs := by
 refine ⟨h.1, ?_⟩
 rcases h.2 with h | ⟨b, o, cap, rfl, hl, ha, hc⟩
 · exact .inl h
 · exact .inr ⟨b, o, cap, rfl, Nat.lt_of_lt_of_le hl hs, ha.agree (hb b V), hc⟩
theorem RSt.keep (h : RSt n0 p s w) {U U' : Nat → Prop} {w' : World} (f : Fr U w U' w') (hu : ∀ k, U k → n0 ≤ k) : RSt n0 p s w' := by
 obtain ⟨vb, vt, m⟩ := h.mem
 have hb : ∀ k, k < n0 → w'.heap[k]? = w.heap[k]? := fun k hk => f.blk k (Nat.lt_of_lt_of_le hk h.ln) (fun hk' => by have := hu k hk'; omega)
 exact ⟨h.lp, Nat.le_trans h.ln f.size, ⟨vb, vt, (hb p h.lp).trans m.blk, m.bts.keepB f.size (fun k hk => hb k (m.nb k hk).1), m.nb, AP m.row (fun k hk => hb k (m.nt k hk).1), m.nt⟩, h.nodup, h.tabs, h.sb, h.st, h.su, h.sn⟩
theorem RSt.cells (h : RSt n0 p s w) : ∃ vb vt, w.cell? ⟨p, 0, none⟩ = some vb ∧ w.cell? ⟨p, 1, none⟩ = some vt ∧ w.cell? ⟨p, 2, none⟩ = some (.int .i64 s.used) ∧ w.cell? ⟨p, 3, none⟩ = some (.int .i64 s.nest) ∧ N5 n0 p s w vb vt := by
 obtain ⟨vb, vt, m⟩ := h.mem
 exact ⟨vb, vt, by rw [m.blk.cell]; rfl, by rw [m.blk.cell]; rfl, by rw [m.blk.cell]; rfl, by rw [m.blk.cell]; rfl, m⟩
theorem RSt.set (h : RSt n0 p s w) {vb vt vb' : Value} {s' : RS} (m : N5 n0 p s w vb vt) (hb : Bts w vb' s'.b) (hnb : ∀ k, Bk vb' k → k < n0 ∧ k ≠ p) (ht : s'.tab = s.tab)
 (h1 : s'.b.length ≤ 2 ^ 25) (h2 : s'.used ≤ s'.tab.length) (h3 : s'.nest ≤ 1001) : RSt n0 p s' (w.setRow p [vb', vt, .int .i64 s'.used, .int .i64 s'.nest].toArray) := by
 refine ⟨h.lp, by simp only [BB]; exact h.ln, ⟨vb', vt, m.blk.setRow _, hb.keepB (by simp only [BB]; exact Nat.le_refl _) (fun k hk => setRow_other _ _ _ _ (hnb k hk).2), hnb, ?_, m.nt⟩, ht ▸ h.nodup, ht ▸ h.tabs, h1, ht ▸ h.st, h2, h3⟩
 rw [ht]
 exact AP m.row (fun k hk => setRow_other _ _ _ _ (m.nt k hk).2)
end
theorem GP : AF prog 92 0 0 := fun w b o => by
 simp [Instr.fieldAt, runUnderlying92, Instr.sureAddr, fieldPlace, sizeOf22, Addr.add_lit]
theorem JW : AF prog 92 1 1 := fun w b o => by
 simp [Instr.fieldAt, runUnderlying92, Instr.sureAddr, fieldPlace, sizeOf44, Addr.add_lit]
theorem Lx : AF prog 92 2 2 := fun w b o => by
 simp [Instr.fieldAt, runUnderlying92, Instr.sureAddr, fieldPlace, sizeOf3, Addr.add_lit]
theorem Kb : AF prog 92 3 3 := fun w b o => by
 simp [Instr.fieldAt, runUnderlying92, Instr.sureAddr, fieldPlace, sizeOf3, Addr.add_lit]
theorem MH {P : Program} {w : World} (k : IntKind) (i : Int) (y : Nat) (code : BoundsCode) (h0 : 0 ≤ i) (h1 : i ≤ y) :
 (Instr.sliceBound (.int k i) y code).run P w = .ok i.toNat w := by
 simp [Instr.sliceBound, asIntOf, h0, h1]
theorem Do {w : World} {v : Value} {bs : List UInt8} (h : Bts w v bs) {lo hi : Option Value} {l k : Nat} (hl : (lo = none ∧ l = 0) ∨ lo = some (.int .i64 (l : Int))) (hk : (hi = none ∧ k = bs.length) ∨ hi = some (.int .i64 (k : Int)))
 (h1 : l ≤ k) (h2 : k ≤ bs.length) : ∃ v', (∀ w', (Instr.sliceAt 22 v lo hi none).run prog w' = .ok v' w') ∧ Bts w v' ((bs.take k).drop l) ∧ (∀ b, Bk v' b → Bk v b) := by
 have hlen : ((bs.take k).drop l).length = k - l := by simp; omega
 rcases h.2 with ⟨rfl, rfl⟩ | ⟨b, o, cap, rfl, hb, ha, hc⟩
 · have : k = 0 := by simpa using h2
   subst this
   have : l = 0 := by omega
   subst this
   refine ⟨.slice none 0 0, fun w' => ?_, ⟨by simp, .inl ⟨rfl, by simp⟩⟩, fun b hb => hb⟩
   rcases hl with ⟨rfl, _⟩ | rfl <;> rcases hk with ⟨rfl, _⟩ | rfl <;> simp [Instr.sliceAt, Instr.slice, runUnderlying22, Instr.sliceBounds, sizeOf5, MH]
 · have hbd : (Instr.sliceBounds true bs.length cap lo hi none) = (do
    let m ← pure cap
    let h ← (match hi with | some v => Instr.sliceBound v m .sliceAcap | none => pure bs.length)
    let l ← (match lo with | some v => Instr.sliceBound v h .sliceB | none => pure 0)
    pure (l, h, m)) := by
    cases lo <;> cases hi <;> rfl
   have hr : ∀ w', (Instr.sliceBounds true bs.length cap lo hi none).run prog w' = .ok (l, k, cap) w' := by
    intro w'
    rw [hbd]
    have r1 : ∀ w', (Instr.sliceBound (.int .i64 (k : Int)) cap .sliceAcap).run prog w' = .ok k w' := fun w' => by
     have := MH (P := prog) (w := w') .i64 (k : Int) cap .sliceAcap (by omega) (by omega)
     simpa using this
    have r2 : ∀ w', (Instr.sliceBound (.int .i64 (l : Int)) k .sliceB).run prog w' = .ok l w' := fun w' => by
     have := MH (P := prog) (w := w') .i64 (l : Int) k .sliceB (by omega) (by omega)
     simpa using this
    rcases hl with ⟨rfl, rfl⟩ | rfl <;> rcases hk with ⟨rfl, rfl⟩ | rfl <;> simp [r1, r2]
   refine ⟨.slice (if cap = l then some ⟨b, o, none⟩ else some ⟨b, o + l, none⟩) (k - l) (cap - l), fun w' => ?_, ?_, ?_⟩
   · simp [Instr.sliceAt, Instr.slice, runUnderlying22, hr, sizeOf5, Addr.add_lit]
   · refine ⟨by rw [hlen]; have := h.1; omega, .inr ?_⟩
     by_cases he : cap = l
     · refine ⟨b, o, cap - l, by rw [if_pos he, hlen], hb, ?_, by rw [hlen]; omega⟩
       have : (bs.take k).drop l = [] := List.eq_nil_of_length_eq_zero (by omega)
       rw [this]; intro j v hj; simp at hj
     · refine ⟨b, o + l, cap - l, by rw [if_neg he, hlen], hb, ?_, by rw [hlen]; omega⟩
       have := ha.sub l (k - l)
       intro j v hj
       refine this j v ?_
       rw [← List.map_drop, ← List.map_take, ← hj, List.drop_take]
   · intro c hc
     have : b = c := by
      by_cases he : cap = l <;> simpa [Bk, Value.ownBlock, he] using hc
     subst this; rfl
def NumInv (b : List UInt8) (i acc : Nat) : Prop :=
 acc < 2 ^ (7 * i) ∧ (∀ m r, b = num m ++ r → ∃ m', m = acc + 2 ^ (7 * i) * m' ∧ b.drop i = num m' ++ r ∧ (0 < i → 0 < m')) ∧
  (∀ m' r, b.drop i = num m' ++ r → (0 < i → 0 < m') → b = num (acc + 2 ^ (7 * i) * m') ++ r)
theorem NumInv.start (b : List UInt8) : NumInv b 0 0 := ⟨by simp, fun m r h => ⟨m, by simp, by simpa using h, by simp⟩, fun m' r h _ => by simpa using h⟩
theorem Fm {n : Nat} (h : n < 256) : n.toUInt8.toNat = n := by simp [Nat.toUInt8, Nat.mod_eq_of_lt h]
theorem Ii (c : UInt8) : c.toNat.toUInt8 = c := by
 apply UInt8.toNat_inj.1
 exact Fm c.toNat_lt
theorem Hr {b : List UInt8} {i : Nat} {c : UInt8} (h : b[i]? = some c) : b.drop i = c :: b.drop (i + 1) := by
 obtain ⟨h1, h2⟩ := List.getElem?_eq_some_iff.1 h
 rw [List.drop_eq_getElem_cons h1, h2]
theorem I9 {m : Nat} {c : UInt8} {r l : List UInt8} (h : c :: l = num m ++ r) : (c.toNat < 128 ∧ m = c.toNat ∧ l = r) ∨ (128 ≤ c.toNat ∧ ∃ m', 0 < m' ∧ m = (c.toNat - 128) + 128 * m' ∧ l = num m' ++ r) := by
 by_cases hm : m < 128
 · rw [DO hm] at h
   simp only [List.cons_append, List.nil_append, List.cons.injEq] at h
   left
   have := Fm (n := m) (by omega)
   rw [h.1]; exact ⟨by omega, by omega, h.2⟩
 · rw [Hq (by omega)] at h
   simp only [List.cons_append, List.cons.injEq] at h
   right
   have := Fm (n := m % 128 + 128) (by omega)
   rw [h.1]; exact ⟨by omega, m / 128, by omega, by omega, h.2⟩
theorem NM (i : Nat) : 2 ^ (7 * (i + 1)) = 2 ^ (7 * i) * 128 := by
 rw [show 7 * (i + 1) = 7 * i + 7 by omega, Nat.pow_add]
theorem NumInv.step {b : List UInt8} {i acc : Nat} {c : UInt8} (h : NumInv b i acc) (hc : b[i]? = some c) (hge : 128 ≤ c.toNat) : NumInv b (i + 1) (acc + 2 ^ (7 * i) * (c.toNat - 128)) := by
 obtain ⟨h1, h2, h3⟩ := h
 have hlt := c.toNat_lt
 rw [NumInv, NM]
 generalize 2 ^ (7 * i) = q at *
 have hd := Hr hc
 refine ⟨?_, ?_, ?_⟩
 · have : q * (c.toNat - 128) ≤ q * 127 := Nat.mul_le_mul_left _ (by omega)
   omega
 · intro m r hm
   obtain ⟨m', e1, e2, _⟩ := h2 m r hm
   rw [hd] at e2
   rcases I9 e2 with ⟨hlt', _⟩ | ⟨_, m'', hp, e3, e4⟩
   · omega
   · refine ⟨m'', ?_, e4, fun _ => hp⟩
     rw [e1, e3, Nat.mul_add, Nat.mul_assoc, Nat.add_assoc]
 · intro m' r hr hp
   have hp' := hp (by omega)
   have hnum : c :: b.drop (i + 1) = num ((c.toNat - 128) + 128 * m') ++ r := by
    rw [Hq (by omega), hr]
    have e1 : ((c.toNat - 128 + 128 * m') % 128 + 128) = c.toNat := by omega
    have e2 : (c.toNat - 128 + 128 * m') / 128 = m' := by omega
    rw [e1, e2, Ii]; rfl
   have := h3 ((c.toNat - 128) + 128 * m') r (hd.trans hnum) (fun _ => by omega)
   rw [this, Nat.mul_add, Nat.mul_assoc, Nat.add_assoc]
theorem NumInv.last {b : List UInt8} {i acc : Nat} {c : UInt8} (h : NumInv b i acc) (hc : b[i]? = some c) (hlt : c.toNat < 128) (hz : 0 < i → c.toNat ≠ 0) : b = num (acc + 2 ^ (7 * i) * c.toNat) ++ b.drop (i + 1) := by
 refine h.2.2 c.toNat _ ?_ (fun hi => by have := hz hi; omega)
 rw [Hr hc, DO hlt, Ii]; rfl
theorem NumInv.none_end {b : List UInt8} {acc : Nat} (h : NumInv b b.length acc) (m : Nat) (r : List UInt8) : b ≠ num m ++ r := by
 intro e
 obtain ⟨m', _, e2, _⟩ := h.2.1 m r e
 rw [List.drop_length] at e2
 have := DT m'
 have h3 := congrArg List.length e2
 simp at h3; omega
theorem NumInv.none_zero {b : List UInt8} {i acc : Nat} {c : UInt8} (h : NumInv b i acc) (hc : b[i]? = some c) (hi : 0 < i) (h0 : c.toNat = 0) (m : Nat) (r : List UInt8) : b ≠ num m ++ r := by
 intro e
 obtain ⟨m', _, e2, e3⟩ := h.2.1 m r e
 rw [Hr hc] at e2
 have := e3 hi
 rcases I9 e2 with ⟨_, e4, _⟩ | ⟨_, _⟩ <;> omega
theorem NumInv.none_big {b : List UInt8} {acc : Nat} {c : UInt8} (h : NumInv b 9 acc) (hc : b[9]? = some c) (h1 : 1 < c.toNat) (m : Nat) (r : List UInt8) (hm : m < 18446744073709551616) : b ≠ num m ++ r := by
 intro e
 obtain ⟨m', e1, e2, e3⟩ := h.2.1 m r e
 rw [Hr hc] at e2
 have h2 : 2 ≤ m' := by rcases I9 e2 with ⟨_, e4, _⟩ | ⟨_, _, _, _, _⟩ <;> omega
 simp only [Nat.reduceMul, Nat.reducePow] at e1
 omega
end Go.Sx
namespace Go.Sx
open Go.Proofs Go.Proofs.Tryz
section
variable {P : Program} {w : World} {t : TypeId}
theorem DA {n : Nat} (h : n < 18446744073709551616) : (BitVec.ofInt 64 (n : Int)).toNat = n := by
 rw [BitVec.toNat_ofInt]; omega
theorem Mr {n : Nat} (h : n < 18446744073709551616) : (binOp .and t (.int .u64 (n : Int)) (.int .u64 127)).run P w = .ok (.int .u64 ((n % 128 : Nat) : Int)) w := by
 show Result.ok (Value.int .u64 (IntKind.u64.wrap ((BitVec.ofInt 64 (n : Int) &&& BitVec.ofInt 64 127).toNat : Nat))) w = _
 have : (BitVec.ofInt 64 (n : Int) &&& BitVec.ofInt 64 127).toNat = n % 128 := by
  rw [BitVec.toNat_and, DA h]
  exact Nat.and_two_pow_sub_one_eq_mod n 7
 rw [this, Bz (by omega) (by omega)]
theorem NU {n : Nat} (h : n < 18446744073709551616) : (binOp .and t (.int .u64 (n : Int)) (.int .u64 1)).run P w = .ok (.int .u64 ((n % 2 : Nat) : Int)) w := by
 show Result.ok (Value.int .u64 (IntKind.u64.wrap ((BitVec.ofInt 64 (n : Int) &&& BitVec.ofInt 64 1).toNat : Nat))) w = _
 have : (BitVec.ofInt 64 (n : Int) &&& BitVec.ofInt 64 1).toNat = n % 2 := by
  rw [BitVec.toNat_and, DA h]
  exact Nat.and_two_pow_sub_one_eq_mod n 1
 rw [this, Bz (by omega) (by omega)]
theorem NC {a d : Nat} {k : IntKind} {c : Int} (hc : c = (d : Int)) (hd : d ≤ 64) (h : a * 2 ^ d < 18446744073709551616) : (binOp .shl t (.int .u64 (a : Int)) (.int k c)).run P w = .ok (.int .u64 ((a * 2 ^ d : Nat) : Int)) w := by
 subst hc
 show (Op.shift .shl .u64 a k d).run P w = _
 have h1 : ¬ ((d : Int) < 0) := by omega
 have h2 : ((a : Int) * 2 ^ d) = ((a * 2 ^ d : Nat) : Int) := by simp
 have h3 : min d IntKind.u64.bits = d := Nat.min_eq_left hd
 simp only [Op.shift, h1, if_false, Int.toNat_natCast, h3, h2]
 rw [Bz (by omega) (by omega)]; rfl
theorem NI {a c d : Nat} (ha : a < 2 ^ d) (h : a + 2 ^ d * c < 18446744073709551616) : (binOp .or t (.int .u64 (a : Int)) (.int .u64 ((c * 2 ^ d : Nat) : Int))).run P w = .ok (.int .u64 ((a + 2 ^ d * c : Nat) : Int)) w := by
 show Result.ok (Value.int .u64 (IntKind.u64.wrap ((BitVec.ofInt 64 (a : Int) ||| BitVec.ofInt 64 ((c * 2 ^ d : Nat) : Int)).toNat : Nat))) w = _
 have : (BitVec.ofInt 64 (a : Int) ||| BitVec.ofInt 64 ((c * 2 ^ d : Nat) : Int)).toNat = a + 2 ^ d * c := by
  rw [BitVec.toNat_or, DA (by omega), DA (by rw [Nat.mul_comm]; omega)]
  have := Nat.two_pow_add_eq_or_of_lt ha c
  rw [Nat.mul_comm c, Nat.or_comm, ← this, Nat.add_comm]
 rw [this, Bz (by omega) (by omega)]
end
def ML (p : Nat) (w w' : World) : Prop :=
 w'.cell? ⟨p, 1, none⟩ = w.cell? ⟨p, 1, none⟩ ∧ ∀ v v', w.cell? ⟨p, 0, none⟩ = some v → w'.cell? ⟨p, 0, none⟩ = some v' → ∀ k, Bk v' k → Bk v k
def PQ (n0 p : Nat) (s : RS) (w : World) (v : Value) (w' : World) : Prop :=
 ∃ n s', n < 18446744073709551616 ∧ s.eat n = some s' ∧ v = .int .u64 ((n : Nat) : Int) ∧ RSt n0 p s' w' ∧ Fr (only p) w (only p) w' ∧ ML p w w'
def Py (n0 p : Nat) (s : RS) (w : World) (ch : List PanicEntry) (w' : World) : Prop :=
 ch = CL ∧ (∀ n, n < 18446744073709551616 → s.eat n = none) ∧ RSt n0 p s w' ∧ Fr (only p) w (only p) w'
theorem IP {s : RS} {n : Nat} (h : ∀ r, s.b ≠ num n ++ r) : s.eat n = none := by
 cases he : s.eat n with
 | none => rfl
 | some s' => exact absurd (RS.eat_iff.1 he).1 (h _)
theorem O6 {n0 p : Nat} {s : RS} {w : World} (h : RSt n0 p s w) : Calls prog 115 [ptr p].toArray w (Dq (PQ n0 p s w) (Py n0 p s w)) := by
 obtain ⟨vb, vt, e0, e1, e2, e3, m⟩ := h.cells
 have hsb := h.sb
 have hbts := m.bts
 obtain ⟨g, cap, rfl, hget⟩ := hbts.val
 refine AB 60 func115 V V V ?_
 refine Af (Aa (Ah V V (Ae (Af (Aa (Ah V V (Ae ?_)))))))
 refine B9 (ι := Nat) (fun _ => []) (fun _ w' => w = w' ∧ ∀ n, n < 18446744073709551616 → s.eat n = none) ?_ ?_
 · refine Af (Aa (Ac V V (As V V (Ab V (GP _ _ _) V (Ai V (A4 CG e0) V (AE V (Ay underlying22) V (Ac V V (Ae ?_))))))))
   refine A1 (AW (ι := Nat × Nat) (fun i => [(0, ptr p), (3, .int .u64 i.2), (10, .int .i64 s.b.length), (11, .int .i64 i.1)]) (fun i w' => i.1 ≤ s.b.length ∧ i.1 ≤ 9 ∧ w = w' ∧ NumInv s.b i.1 i.2) (fun i => s.b.length - i.1) (0, 0)
    ⟨V, V, V, V, trivial⟩ ⟨Nat.zero_le _, by decide, rfl, NumInv.start _⟩ ?_)
   rintro ⟨i, acc⟩ _ ⟨hi, hi9, rfl, hinv⟩
   simp only at hi hi9 hinv ⊢
   refine Af (Aa (Al V V V V (Ae (Af ?_))))
   refine AK V (fun ht => A_ fun a ha => Ad ?_) (fun hf => AQ fun a ha => Aq (Aq (A3 (Ad ?_))))
   · have hlt : i < s.b.length := by simp at ht; omega
     obtain ⟨c, hc⟩ : ∃ c, s.b[i]? = some c := ⟨_, List.getElem?_eq_getElem hlt⟩
     obtain ⟨b, o, rfl, hcell, _⟩ := hget i c hc
     have hc256 := c.toNat_lt
     have hacc : acc < 18446744073709551616 := Nat.lt_of_lt_of_le hinv.1 (Nat.le_trans (Nat.pow_le_pow_right (by decide) (by omega : 7 * i ≤ 63)) (by decide))
     have hia : ∀ w, (Instr.indexAt 22 (.slice (some ⟨b, o, none⟩) s.b.length cap) (.int .i64 i)).run prog w = .ok (.pointer (some ⟨b, o + i, none⟩)) w := fun w => by
      have := Bp (P := prog) (w := w) (b := b) (o := o) (cap := cap) (i := (i : Int)) underlying22 Kw (by omega) (by omega : (i : Int) < (s.b.length : Nat))
      rwa [Int.toNat_natCast, Nat.mul_one] at this
     refine A8 ha (Af (A1 (Af (Aa (Ac V V (Ah V V (Ae ?_)))))))
     refine Af (Aa (Ac V V (As V V (Ab V (GP _ _ _) V (Ai V (A4 CG e0) V (Ac V V (A0 V V (hia _) V (Ai V (A4 Kw hcell) V ?_))))))))
     refine AJ V (Bv runUnderlying5 runUnderlying164) V ?_
     rw [Bz (by omega) (by omega)]
     refine Ah V V (Ar [(0, ptr p), (3, .int .u64 acc), (4, .int .i64 i), (5, .int .u64 ((c.toNat : Nat) : Int)), (10, .int .i64 s.b.length), (11, .int .i64 i)] ⟨V, V, V, V, V, V, trivial⟩ ?_)
     refine B9 (ι := Nat) (fun _ => [(0, ptr p), (3, .int .u64 acc), (4, .int .i64 i), (5, .int .u64 ((c.toNat : Nat) : Int)), (10, .int .i64 s.b.length), (11, .int .i64 i)]) (fun _ w' => w = w' ∧ (0 < i → c.toNat ≠ 0) ∧ (i = 9 → c.toNat ≤ 1)) ?_ ?_
     · by_cases h9 : i = 9
       · subst h9
         refine Af (Aa (Ac V V (Al V V (Ej (c := true) V) V (Ac V V ?_))))
         by_cases h1 : 1 < c.toNat
         · refine Ag (j := 2) V V V (Ac V V (Ag (j := 2) V V V (Al V V (Cu (c := true) (decide_eq_true (by omega)).symm) V (AI V V V (Ac V V ?_)))))
           refine B6 (j := 6) V V V V V (B6 (j := 6) V V V V V (B6 (j := 6) V V V V V (B6 (j := 9) V V V V V (B6 (j := 9) V V V V V (B6 (j := 6) V V V V V (AI V V V (Ae ?_)))))))
           refine Ax V (AQ fun a ha => Aq (Iq V (Aq (Aq (A3 (Ad ⟨0, ha.weak trivial, rfl, fun n hn => IP (fun r => hinv.none_big hc h1 n r hn)⟩))))))
         · refine Ag (j := 2) V V V (Ac V V (Ag (j := 2) V V V (Al V V (Cu (c := false) (decide_eq_false (by omega)).symm) V (AI V V V (Ac V V ?_)))))
           refine Ag (j := 6) V V V (Ac V V (Ag (j := 6) V V V (Al V V (Cu (c := true) V) V (Ag (j := 6) V V V (Ac V V ?_)))))
           refine Ag (j := 9) V V V (Ac V V (Ag (j := 9) V V V (Al V V (Ej (c := decide (c.toNat = 0)) (decide_eq_decide.2 (by omega))) V (Ag (j := 6) V V V (AI V V V (AI V V V (Ae ?_)))))))
           refine AK V (fun ht => AQ fun a ha => Aq (Iq V (Aq (Aq (A3 (Ad ⟨0, ha.weak trivial, rfl, fun n hn => IP (fun r => hinv.none_zero hc (by decide) (of_decide_eq_true ht) n r)⟩)))))) (fun hf => A_ fun a ha => Ad ?_)
           exact ⟨0, ha.weak ⟨V, V, V, V, V, V, trivial⟩, rfl, fun _ => of_decide_eq_false hf, fun _ => by omega⟩
       · refine Af (Aa (Ac V V (Al V V (Ej (c := false) (decide_eq_false (by omega)).symm) V (Ac V V ?_))))
         refine B6 (j := 2) V V V V V (B6 (j := 2) V V V V V (AI V V V (Ac V V ?_)))
         by_cases h0 : 0 < i
         · refine Ag (j := 6) V V V (Ac V V (Ag (j := 6) V V V (Al V V (Cu (c := true) (decide_eq_true (by omega)).symm) V (Ag (j := 6) V V V (Ac V V ?_)))))
           refine Ag (j := 9) V V V (Ac V V (Ag (j := 9) V V V (Al V V (Ej (c := decide (c.toNat = 0)) (decide_eq_decide.2 (by omega))) V (Ag (j := 6) V V V (AI V V V (AI V V V (Ae ?_)))))))
           refine AK V (fun ht => AQ fun a ha => Aq (Iq V (Aq (Aq (A3 (Ad ⟨0, ha.weak trivial, rfl, fun n hn => IP (fun r => hinv.none_zero hc h0 (of_decide_eq_true ht) n r)⟩)))))) (fun hf => A_ fun a ha => Ad ?_)
           exact ⟨0, ha.weak ⟨V, V, V, V, V, V, trivial⟩, rfl, fun _ => of_decide_eq_false hf, fun h => absurd h h9⟩
         · refine Ag (j := 6) V V V (Ac V V (Ag (j := 6) V V V (Al V V (Cu (c := false) (decide_eq_false (by omega)).symm) V (Ag (j := 6) V V V (Ac V V ?_)))))
           refine B6 (j := 9) V V V V V (B6 (j := 9) V V V V V (Ag (j := 6) V V V (AI V V V (AI V V V (Ae ?_)))))
           refine A9 V (A_ fun a ha => Ad ?_)
           exact ⟨0, ha.weak ⟨V, V, V, V, V, V, trivial⟩, rfl, fun h => absurd h h0, fun h => absurd h h9⟩
     · rintro _ _ ⟨rfl, hz, h9⟩
       have hfit : acc + 2 ^ (7 * i) * (c.toNat % 128) < 18446744073709551616 := by
        have h1 := hinv.1
        by_cases hi9' : i = 9
        · subst hi9'
          have := h9 rfl
          have : c.toNat % 128 ≤ 1 := by omega
          simp only [Nat.reduceMul, Nat.reducePow] at h1 ⊢
          omega
        · have h2 : 2 ^ (7 * i) ≤ 2 ^ 56 := Nat.pow_le_pow_right (by decide) (by omega)
          have h3 : 2 ^ (7 * i) * (c.toNat % 128) ≤ 2 ^ 56 * 127 := Nat.mul_le_mul h2 (by omega)
          simp only [Nat.reducePow, Nat.reduceMul] at h2 h3
          omega
       have hmul : ∀ w, (binOp .mul 3 (.int .i64 7) (.int .i64 (i : Int))).run prog w = .ok (.int .i64 ((7 * i : Nat) : Int)) w := fun w => by
        show Result.ok (Value.int .i64 (IntKind.i64.wrap (7 * (i : Int)))) w = _
        rw [B4 (by unfold Bu; omega)]; simp
       refine Af (Aa (Ac V V (Ac V V (Al V V (Mr (by omega)) V (Ac V V (Al V V (hmul _) V ?_))))))
       refine AJ V (Bv runUnderlying3 runUnderlying130) V ?_
       rw [Bz (by omega) (by omega)]
       refine Al V V (NC (d := 7 * i) V (by omega) (by rw [Nat.mul_comm]; omega)) V (Al V V (NI hinv.1 hfit) V (Ah V V (Ae ?_)))
       refine Af (Aa (Ac V V (Al V V (Bh (c := decide (c.toNat < 128)) (decide_eq_decide.2 (by omega))) V (Ae ?_))))
       refine AK V (fun ht => ?_) (fun hf => A_ fun a ha => ?_)
       · have hlt128 : c.toNat < 128 := of_decide_eq_true ht
         have hb := hinv.last hc hlt128 hz
         obtain ⟨v', hsl, hbts', hown⟩ := Do hbts (lo := some (.int .i64 ((i + 1 : Nat) : Int))) (hi := none) (l := i + 1) (k := s.b.length) (.inr rfl) (.inl ⟨rfl, rfl⟩) hlt (Nat.le_refl _)
         rw [List.take_length] at hbts'
         have hst := BR (P := prog) (t := 22) (n := 1) (agg := false) (b := p) (o := 0) (v := v') (vs := [v']) CG (by rcases hbts'.val with ⟨_, _, rfl, _⟩; rfl) rfl (by rcases hbts'.val with ⟨_, _, rfl, _⟩; simp [Value.oneCell']) m.blk (by simp)
         rw [Hj] at hst
         have hset := h.set (s' := { s with b := s.b.drop (i + 1) }) m hbts' (fun k hk => m.nb k (hown k hk)) rfl (by simp only [List.length_drop]; omega) h.su h.sn
         refine Af (Aa (Ac V V (Ac V V (As V V (Ab V (GP _ _ _) V (Ai V (A4 CG e0) V (Ac V V (Al V V (v := .int .i64 ((i + 1 : Nat) : Int)) ?_ V ?_))))))))
         · exact congrArg (fun v => Result.ok v w) (AS (by omega))
         refine DV (vl := some (.int .i64 ((i + 1 : Nat) : Int))) (vh := none) V V V (hsl _) V (As V V (Ab V (GP _ _ _) V (An V V hst (Ae ?_))))
         refine Af (Aa (Ac V V (Ah V V (Ae (AA fun a ha => Aw (Ao (Ao (Aw (Ao (Au V ha V ⟨_, _, hfit, ?_, rfl, hset, Fr.setRow _ V, ⟨by rw [(m.blk.setRow _).cell, e1]; rfl, fun v0 v1 g0 g1 k hk => by
          rw [e0] at g0; cases g0
          rw [(m.blk.setRow _).cell] at g1; cases g1
          exact hown k hk⟩⟩)))))))))) 
         rw [RS.eat_iff, Nat.mod_eq_of_lt hlt128]
         exact ⟨hb, rfl⟩
       · have hge : 128 ≤ c.toNat := by have := of_decide_eq_false hf; omega
         have hn9 : i ≠ 9 := fun e => by have := h9 e; omega
         refine Az (Ad (A8 ha (Aa (Al V V V V (Ac V V (A2 fun a ha => Ad ?_))))))
         refine ⟨(i + 1, acc + 2 ^ (7 * i) * (c.toNat % 128)), ha.weak ⟨rfl, rfl, rfl, by show some _ = some _; rw [AS (by omega)], trivial⟩, ⟨hlt, by show i + 1 ≤ 9; omega, rfl, ?_⟩, by simp only; omega⟩
         have := hinv.step hc hge
         rwa [show c.toNat - 128 = c.toNat % 128 by omega] at this
   · have : i = s.b.length := by simp at hf; omega
     subst this
     exact ⟨0, ha.weak trivial, rfl, fun n _ => IP (fun r => hinv.none_end n r)⟩
 · rintro _ _ ⟨rfl, hno⟩
   exact Aa (D7 V V (fun a ha => Av ha ⟨rfl, hno, h, Fr.refl _ _⟩) V V)
end Go.Sx
namespace Go.Sx
open Go.Proofs Go.Proofs.Tryz
theorem BJ {s s' : RS} {n : Nat} (h : s.eat n = some s') : s'.nest = s.nest ∧ s'.tab = s.tab ∧ s'.used = s.used := by
 have := (RS.eat_iff.1 h).2
 rw [this]; exact ⟨rfl, rfl, rfl⟩
def Qz (n0 p : Nat) (s : RS) (w : World) (v : Value) (w' : World) : Prop :=
 ∃ n s', s.eat n = some s' ∧ n ≤ s'.b.length ∧ v = .int .i64 ((n : Nat) : Int) ∧ RSt n0 p s' w' ∧ Fr (only p) w (only p) w' ∧ ML p w w'
def PD (n0 p : Nat) (s : RS) (w : World) (ch : List PanicEntry) (w' : World) : Prop :=
 ch = CL ∧ (∀ n s', s.eat n = some s' → ¬ n ≤ s'.b.length) ∧ ∃ s', RSt n0 p s' w' ∧ Fr (only p) w (only p) w' ∧ s'.nest = s.nest
theorem Kv {n0 p : Nat} {s : RS} {w : World} (h : RSt n0 p s w) : Calls prog 54 [ptr p].toArray w (Dq (Qz n0 p s w) (PD n0 p s w)) := by
 refine AB 18 func54 V V V ?_
 refine Af (Aa (Ah V V (Ae (Af (Aa (Ac V V (Aj call115 V V (O6 h) ?_ ?_)))))))
 rotate_left
 · rintro ch w1 ⟨rfl, hno, h1, f1⟩ a ha
   refine Am (Av ha ⟨rfl, fun n s' he hle => ?_, s, h1, f1, rfl⟩)
   have hb := (RS.eat_iff.1 he).1
   have hs := h.sb
   have hl : s.b.length = (num n).length + s'.b.length := by rw [hb, List.length_append]
   rw [hno n (by omega)] at he; cases he
 rintro _ w1 ⟨n, s', hn, he, rfl, h1, f1, hv1⟩
 obtain ⟨vb, vt, e0, e1, e2, e3, m⟩ := h1.cells
 obtain ⟨g, cap, rfl, _⟩ := m.bts.val
 have hsb := h1.sb
 refine Ah V V (Ae ?_)
 refine Af (Af (Aa (Ac V V (Ac V V (As V V (Ab V (GP _ _ _) V (Ai V (A4 CG e0) V (AE V (Ay underlying22) V (AJ V (Bv runUnderlying3 runUnderlying164) V ?_)))))))))
 rw [Bz (by omega) (by omega)]
 refine Al V V (Cu (c := decide (s'.b.length < n)) (decide_eq_decide.2 (by omega))) V (Ae ?_)
 refine AK V (fun ht => Aa (D7 V V (fun a ha => ?_) V V)) (fun hf => A_ fun a ha => Ad ?_)
 · have hlt := of_decide_eq_true ht
   refine Am (Av ha ⟨rfl, fun n' s'' he' hle => ?_, s', h1, f1, (BJ he).1⟩)
   obtain ⟨rfl, rfl⟩ := CD he he'
   omega
 · have hle : n ≤ s'.b.length := by have := of_decide_eq_false hf; omega
   refine A8 ha (Af (Aa (Ac V V (AJ V (Bv runUnderlying164 runUnderlying3) V ?_))))
   rw [B4 (by unfold Bu; omega)]
   exact Ah V V (Ae (AA fun a ha => Au V ha V ⟨n, s', he, hle, rfl, h1, f1, hv1⟩))
def Df (n0 p : Nat) (ty : Ty) (s : RS) (w : World) (v : Value) (w' : World) : Prop :=
 ∃ t s' cs, CK t ty s = some s' ∧ v = CU ty cs ∧ Rep w' (fun b => w.heap.size ≤ b) t ty cs ∧ RSt n0 p s' w' ∧ Fr (only p) w (only p) w' ∧ s'.nest = s.nest
def Jw (n0 p : Nat) (ty : Ty) (s : RS) (w : World) (ch : List PanicEntry) (w' : World) : Prop :=
 ch = CL ∧ L1 ty s ∧ ∃ s', RSt n0 p s' w' ∧ Fr (only p) w (only p) w' ∧ s.nest ≤ s'.nest
def BG (n0 p : Nat) (f : FuncId) (ty : Ty) (k : Nat) : Prop :=
 ∀ s w, RSt n0 p s w → s.nest = k → Calls prog f [ptr p].toArray w (Dq (Df n0 p ty s w) (Jw n0 p ty s w))
theorem I0 {n0 p k : Nat} : BG n0 p 117 .bool k := by
 intro s w h hk
 refine AB 12 func117 V V V ?_
 refine Af (Aa (Ah V V (Ae (Af (Aa (Ac V V (Aj call115 V V (O6 h) ?_ ?_)))))))
 rotate_left
 · rintro ch w1 ⟨rfl, hno, h1, f1⟩ a ha
   refine Am (Av ha ⟨rfl, fun t => ?_, s, h1, f1, Nat.le_refl _⟩)
   cases t <;> simp only [CK]
   rename_i b; exact hno _ (by cases b <;> decide)
 rintro _ w1 ⟨n, s', hn, he, rfl, h1, f1, hv1⟩
 refine Ah V V (Ae ?_)
 refine Af (Af (Aa (Ac V V (Al V V (Cu (c := decide (1 < n)) (decide_eq_decide.2 (by omega))) V (Ae ?_)))))
 refine AK V (fun ht => Aa (D7 V V (fun a ha => ?_) V V)) (fun hf => A_ fun a ha => Ad ?_)
 · have hlt := of_decide_eq_true ht
   refine Am (Av ha ⟨rfl, fun t => ?_, s', h1, f1, Nat.le_of_eq (BJ he).1.symm⟩)
   cases t <;> simp only [CK]
   rename_i b
   cases hb : s.eat b.toNat with
   | none => rfl
   | some s'' =>
    have := (CD he hb).1
    have : b.toNat ≤ 1 := by cases b <;> decide
    omega
 · have hle : ¬ 1 < n := of_decide_eq_false hf
   refine A8 ha (Af (Aa (Ac V V (Al V V (Ej (c := decide (n = 1)) (decide_eq_decide.2 (by omega))) V ?_))))
   refine Ah V V (Ae (AA fun a ha => Au V ha V ⟨.bool (decide (n = 1)), s', [.bool (decide (n = 1))], ?_, rfl, ?_, h1, f1, (BJ he).1⟩))
   · simp only [CK]
     have : (decide (n = 1)).toNat = n := by
      by_cases h : n = 1
      · subst h; rfl
      · have : n = 0 := by omega
        subst this; rfl
     rw [this]; exact he
   · simp only [Rep]
def EP (n : Nat) : Int := if n % 2 = 0 then (n / 2 : Nat) else -((n / 2 : Nat) : Int) - 1
theorem KJ {n : Nat} (h : n < 18446744073709551616) : GU (EP n) = n ∧ Bu (EP n) := by
 unfold GU EP Bu
 split <;> constructor <;> (try split) <;> omega
theorem K7 {w : World} {t : TypeId} {n : Nat} (h : n < 18446744073709551616) : (binOp .xor t (.int .i64 ((n / 2 : Nat) : Int)) (.int .i64 (0 - ((n % 2 : Nat) : Int)))).run prog w = .ok (.int .i64 (EP n)) w := by
 show Result.ok (Value.int .i64 (IntKind.i64.wrap ((BitVec.ofInt 64 ((n / 2 : Nat) : Int) ^^^ BitVec.ofInt 64 (0 - ((n % 2 : Nat) : Int))).toNat : Nat))) w = _
 have key : IntKind.i64.wrap ((BitVec.ofInt 64 ((n / 2 : Nat) : Int) ^^^ BitVec.ofInt 64 (0 - ((n % 2 : Nat) : Int))).toNat : Nat) = EP n := by
  have h2 : (BitVec.ofInt 64 ((n / 2 : Nat) : Int)).toNat = n / 2 := DA (by omega)
  unfold EP
  rcases Nat.mod_two_eq_zero_or_one n with h0 | h0
  · rw [h0, if_pos rfl]
    have : BitVec.ofInt 64 (0 - ((0 : Nat) : Int)) = 0#64 := by decide
    rw [this, BitVec.xor_zero, h2, B4 (by unfold Bu; omega)]
  · rw [h0, if_neg (by decide)]
    have : BitVec.ofInt 64 (0 - ((1 : Nat) : Int)) = BitVec.allOnes 64 := by decide
    rw [this, BitVec.xor_allOnes, BitVec.toNat_not, h2]
    rw [show (2 ^ 64 - 1 - n / 2 : Nat) = 18446744073709551615 - n / 2 by simp]
    simp only [IntKind.wrap, IntKind.bits, IntKind.signed, Bool.true_and]
    rw [if_pos (by simp; omega)]
    omega
 rw [key]
theorem Ez {n0 p k : Nat} : BG n0 p 118 .int k := by
 intro s w h hk
 refine AB 14 func118 V V V ?_
 refine Af (Aa (Ah V V (Ae (Af (Aa (Ac V V (Aj call115 V V (O6 h) ?_ ?_)))))))
 rotate_left
 · rintro ch w1 ⟨rfl, hno, h1, f1⟩ a ha
   refine Am (Av ha ⟨rfl, fun t => ?_, s, h1, f1, Nat.le_refl _⟩)
   cases t <;> simp only [CK]
   split
   · exact hno _ (Eb _)
   · rfl
 rintro _ w1 ⟨n, s', hn, he, rfl, h1, f1, hv1⟩
 refine Ah V V (Ae ?_)
 obtain ⟨hz, hi⟩ := KJ hn
 refine Af (Aa (Ac V V (Al V V (Lc (d := 1) V V) V (AJ V (Bv runUnderlying164 runUnderlying3) V ?_))))
 rw [B4 (by unfold Bu; omega), show n / 2 ^ 1 = n / 2 by simp]
 refine Ac V V (Al V V (NU hn) V (AJ V (Bv runUnderlying164 runUnderlying3) V ?_))
 rw [B4 (by unfold Bu; omega)]
 refine JI V (v := .int .i64 (0 - ((n % 2 : Nat) : Int))) ?_ V (Al V V (K7 hn) V ?_)
 · show Result.ok (Value.int .i64 (IntKind.i64.wrap (0 - ((n % 2 : Nat) : Int)))) w1 = _
   rw [B4 (by unfold Bu; omega)]
 refine Ah V V (Ae (AA fun a ha => Au V ha V ⟨.int (EP n), s', [.int .i64 (EP n)], ?_, rfl, ?_, h1, f1, (BJ he).1⟩))
 · simp only [CK, if_pos ((Jd _).1 hi), hz, he]
 · simp only [Rep]; exact ⟨trivial, hi⟩
end Go.Sx
namespace Go.Sx
open Go.Proofs Go.Proofs.Tryz
theorem PC {P : Program} {ops : Array Oper} {Q : Exit → Act → World → Prop} {rest : List Oper} {n : Nat} {ds : List Deferred} {m : Env} {w : World} {d : Nat} {ty : TypeId} {pos : String} {aft : Array Edge}
 {x y : Operand} {ats : Array TypeId} {i j : Int} (hx : ev m x = some (.int .i64 i)) (hy : ev m y = some (.int .i64 j)) (hb : Nat.blt d n = true)
 (h : WL P ops Q rest n ds ((d, .int .i64 (if j > i then j else i)) :: m) w) : WL P ops Q (⟨some d, .call { callee := .builtin .max, args := #[x, y], argTypes := ats }, ty, pos, aft, none⟩ :: rest) n ds m w :=
 CI rfl rfl hb (fun a ha => by simp [execOp, resolve, invoke, builtin, ha.eval hx, ha.eval hy, Builtin.max_, Builtin.max2]) h
theorem Hl {P : Program} {w : World} {t e n : Nat} {agg : Bool} {b o len cap i : Nat} {k : IntKind} (ht : P.underlying t = some (.slice e)) (he : By P e agg n) (h1 : i < len) :
 (Instr.indexAt t (.slice (some ⟨b, o, none⟩) len cap) (.int k (i : Int))).run P w = .ok (.pointer (some ⟨b, o + i * n, none⟩)) w := by
 have h0 : (0 : Int) ≤ (i : Int) := by omega
 have h2 : (i : Int) < (len : Int) := by omega
 simp [Instr.indexAt, asIntOf, run_underlying ht, h1, he.size, Addr.add_lit]
theorem Om (a b c d : Value) (cs : List Value) : Ch (a :: b :: c :: cs) 2 [d] = a :: b :: d :: cs := by simp [Ch]
theorem RSt.setUsed {n0 p : Nat} {s : RS} {w : World} (h : RSt n0 p s w) {k : Nat} (hk : k ≤ s.tab.length) : ∃ w', (storeVar 3 ⟨p, 2, none⟩ (.int .i64 k)).run prog w = .ok () w' ∧ Fr (only p) w (only p) w' ∧ RSt n0 p { s with used := k } w' := by
 obtain ⟨vb, vt, e0, e1, e2, e3, m⟩ := h.cells
 have hst := BR (P := prog) (t := 3) (n := 1) (agg := false) (b := p) (o := 2) (v := .int .i64 k) (vs := [.int .i64 k]) Hm rfl rfl (by simp [Value.oneCell']) m.blk (by simp)
 rw [Om] at hst
 exact ⟨_, hst, Fr.setRow _ V, h.set (s' := { s with used := k }) m m.bts m.nb V h.sb hk h.sn⟩
theorem RSt.setNest {n0 p : Nat} {s : RS} {w : World} (h : RSt n0 p s w) {k : Nat} (hk : k ≤ 1001) : ∃ w', (storeVar 3 ⟨p, 3, none⟩ (.int .i64 k)).run prog w = .ok () w' ∧ Fr (only p) w (only p) w' ∧ RSt n0 p { s with nest := k } w' := by
 obtain ⟨vb, vt, e0, e1, e2, e3, m⟩ := h.cells
 have hst := BR (P := prog) (t := 3) (n := 1) (agg := false) (b := p) (o := 3) (v := .int .i64 k) (vs := [.int .i64 k]) Hm rfl rfl (by simp [Value.oneCell']) m.blk (by simp)
 rw [LR] at hst
 exact ⟨_, hst, Fr.setRow _ V, h.set (s' := { s with nest := k }) m m.bts m.nb V h.sb h.su hk⟩
theorem Iu {n0 p k : Nat} : BG n0 p 56 .str k := by
 intro s w h hk
 refine AB 43 func56 V V V ?_
 refine Af (Aa (Ah V V (Ae (Af (Aa (Ac V V (Aj call115 V V (O6 h) ?_ ?_)))))))
 rotate_left
 · rintro ch w1 ⟨rfl, hno, h1, f1⟩ a ha
   refine Am (Av ha ⟨rfl, fun t => ?_, s, h1, f1, Nat.le_refl _⟩)
   cases t <;> simp only [CK]
   split
   · rename_i i hi
     have hil := (Ex hi).1
     have := h.st
     rw [hno i (by omega)]; simp
   · rfl
 rintro _ w1 ⟨n, s', hn, he, rfl, h1, f1, _⟩
 obtain ⟨hne, hta, hus⟩ := BJ he
 obtain ⟨vb, vt, e0, e1, e2, e3, m⟩ := h1.cells
 obtain ⟨g, cap, rfl, hget⟩ := Dr m.row
 have hsu := h1.su
 have hst := h1.st
 refine Ah V V (Ae ?_)
 -- the string's place is in the table, and not beyond the first that has not occurred
 have bad : s'.used < n ∨ s'.tab.length ≤ n → L1 .str s := by
  intro hb t
  cases t <;> simp only [CK]
  rename_i x
  cases hx : s.tab.findIdx? (fun y => decide (y = x)) with
  | none => rfl
  | some i =>
   simp only
   split
   · rename_i hle
     cases hi : s.eat i with
     | none => rfl
     | some s'' =>
      have e := (CD he hi).1
      have := (Ex hx).1
      rw [hus, hta] at hb
      omega
   · rfl
 refine B9 (ι := Nat) (fun _ => [(0, ptr p), (3, .int .u64 n)]) (fun _ w' => w1 = w' ∧ n ≤ s'.used ∧ n < s'.tab.length) ?_ ?_
 · refine Af (Aa (Ac V V (Ac V V (As V V (Ab V (Lx _ _ _) V (Ai V (A4 Hm e2) V (AJ V (Bv runUnderlying3 runUnderlying164) V ?_)))))))
   rw [Bz (by omega) (by omega)]
   by_cases hb1 : s'.used < n
   · refine Al V V (Cu (c := true) (decide_eq_true (by omega)).symm) V (Ac V V ?_)
     iterate 8 refine B6 (j := 7) V V V V V ?_
     refine AI V V V (Ae (Ax V (Aa (D7 V V (fun a ha => ?_) V V))))
     exact Am (Av ha ⟨rfl, bad (.inl hb1), s', h1, f1, Nat.le_of_eq hne.symm⟩)
   · refine Al V V (Cu (c := false) (decide_eq_false (by omega)).symm) V (Ac V V ?_)
     refine Ag (j := 7) V V V (Ac V V (Ag (j := 7) V V V (Ac V V (Ag (j := 7) V V V (As V V (Ag (j := 7) V V V (Ab V (JW _ _ _) V ?_)))))))
     refine Ag (j := 7) V V V (Ai V (A4 FG e1) V (Ag (j := 7) V V V (AE V (Ay underlying44) V (Ag (j := 7) V V V (AJ V (Bv runUnderlying3 runUnderlying164) V ?_)))))
     rw [Bz (by omega) (by omega)]
     refine Ag (j := 7) V V V (Al V V (JJ (c := decide (s'.tab.length ≤ n)) (decide_eq_decide.2 (by omega))) V (AI V V V (Ae ?_)))
     refine AK V (fun ht => Aa (D7 V V (fun a ha => ?_) V V)) (fun hf => A_ fun a ha => Ad ?_)
     · exact Am (Av ha ⟨rfl, bad (.inr (of_decide_eq_true ht)), s', h1, f1, Nat.le_of_eq hne.symm⟩)
     · exact ⟨0, ha.weak ⟨V, V, trivial⟩, rfl, by omega, by have := of_decide_eq_false hf; omega⟩
 · rintro _ _ ⟨rfl, hle, hlt⟩
   obtain ⟨x, hx⟩ : ∃ x, s'.tab[n]? = some x := ⟨_, List.getElem?_eq_getElem hlt⟩
   obtain ⟨w2, hst2, f2, h2⟩ := h1.setUsed (k := max s'.used (n + 1)) (by omega)
   have hmax : (if ((n + 1 : Nat) : Int) > (s'.used : Int) then ((n + 1 : Nat) : Int) else (s'.used : Int)) = ((max s'.used (n + 1) : Nat) : Int) := by
    split <;> omega
   refine Af (Aa (Ac V V (Ac V V (As V V (Ab V (Lx _ _ _) V (Ai V (A4 Hm e2) V (Ac V V (AJ V (Bv runUnderlying164 runUnderlying3) V ?_))))))))
   rw [B4 (by unfold Bu; omega)]
   refine Al V V (v := .int .i64 ((n + 1 : Nat) : Int)) ?_ V (PC V V V ?_)
   · exact congrArg (fun v => Result.ok v w1) (AS (by omega))
   rw [hmax]
   refine As V V (Ab V (Lx _ _ _) V (An V V hst2 (Ae ?_)))
   obtain ⟨vb2, vt2, d0, d1, d2, d3, m2⟩ := h2.cells
   obtain ⟨g2, cap2, rfl, hget2⟩ := Dr m2.row
   obtain ⟨b, rfl, hcell, _⟩ := hget2 n (.string x) (by simp [hx])
   have hxs := h1.tabs x (List.mem_of_getElem? hx)
   refine Af (Aa (Ac V V (As V V (Ab V (JW _ _ _) V (Ai V (A4 FG d1) V (Ac V V (A0 V V (Hl underlying44 MM hlt) V ?_)))))))
   refine Ai V (A4 MM (by rw [Nat.zero_add, Nat.mul_one]; exact hcell)) V (Ah V V (Ae (AA fun a ha => Au V ha V ?_)))
   refine ⟨.str x, { s' with used := max s'.used (n + 1) }, [.string x], ?_, rfl, ?_, h2, f1.trans f2, hne⟩
   · simp only [CK]
     have hf : s.tab.findIdx? (fun y => decide (y = x)) = some n := by rw [← hta]; exact Ho h1.nodup hx
     rw [hf]
     simp only
     rw [if_pos (by rw [← hus]; exact hle), he, Option.map_some, hus]
   · simp only [Rep]; exact ⟨trivial, hxs⟩
theorem QF {n0 p : Nat} {s : RS} {w : World} (h : RSt n0 p s w) (hk : s.nest ≤ 1000) :
 Calls prog 55 [ptr p].toArray w (Dq
  (fun v w' => ¬ 1000 < s.nest + 1 ∧ ∃ bx, v = .func (.func 116) #[] #[ptr bx] ∧ Blk w' bx [ptr p] 90 ∧ w.heap.size ≤ bx ∧ Fr (only p) w (only p) w' ∧ RSt n0 p { s with nest := s.nest + 1 } w')
  (fun ch w' => ch = CL ∧ 1000 < s.nest + 1 ∧ Fr (only p) w (only p) w' ∧ RSt n0 p { s with nest := s.nest + 1 } w')) := by
 refine AB 18 func55 V V V ?_
 have ty90 : By prog 90 false 1 := Q9
 refine Af (Aa (Cd V V ?_))
 have a1 : Blk (w.alloc (.cells [ptr p].toArray 90)) w.heap.size [ptr p] 90 := AN
 have f1 : Fr (only p) w (only p) (w.alloc (.cells [ptr p].toArray 90)) := Fr.alloc _ _ _
 have h1 := h.keep (Fr.alloc (fun _ => False) w (.cells [ptr p].toArray 90)) (fun _ h => h.elim)
 show WL _ _ _ _ _ _ _ (w.alloc (.cells [ptr p].toArray 90))
 generalize w.alloc (.cells [ptr p].toArray 90) = w1 at a1 f1 h1 ⊢
 obtain ⟨vb, vt, e0, e1, e2, e3, m⟩ := h1.cells
 obtain ⟨w2, hst, f2, h2⟩ := h1.setNest (k := s.nest + 1) (by omega)
 refine Ah V V (Ae ?_)
 refine Af (Af (Aa (Ai V (A4 ty90 a1.cell0) V (As V V (Ab V (Kb _ _ _) V (Ai V (A4 Hm e3) V (Al V V (v := .int .i64 ((s.nest + 1 : Nat) : Int)) ?_ V ?_)))))))
 · exact congrArg (fun v => Result.ok v w1) (AS (by omega))
 have hpl := h.lp
 have hln := h.ln
 have hne : w.heap.size ≠ p := by omega
 have a2 : Blk w2 w.heap.size [ptr p] 90 := (f2.blk _ a1.lt hne).trans a1
 obtain ⟨vb2, vt2, d0, d1, d2, d3, m2⟩ := h2.cells
 refine As V V (Ab V (Kb _ _ _) V (An V V hst (Ae ?_)))
 refine Af (Aa (Ai V (A4 ty90 a2.cell0) V (As V V (Ab V (Kb _ _ _) V (Ai V (A4 Hm d3) V (Al V V (Cu (c := decide (1000 < s.nest + 1)) (decide_eq_decide.2 (by show _ ↔ (1000 : Int) < ((s.nest + 1 : Nat) : Int); omega))) V (Ae ?_)))))))
 refine AK V (fun ht => Aa (D7 V V (fun a ha => ?_) V V)) (fun hf => A_ fun a ha => Ad ?_)
 · exact Am (Av ha ⟨rfl, of_decide_eq_true ht, f1.trans f2, h2⟩)
 · refine A8 ha (Af (Aa (AH V V V (Ah V V (Ae (AA fun a ha => Au V ha V ⟨of_decide_eq_false hf, w.heap.size, rfl, a2, Nat.le_refl _, f1.trans f2, h2⟩))))))
theorem Q6 {n0 p : Nat} {s : RS} {w : World} {bx : Nat} {u : FrameMode} (h : RSt n0 p s w) (hb : Blk w bx [ptr p] 90) (h1 : 1 ≤ s.nest) :
 CallsD prog 116 [ptr bx].toArray u w fun e u' w' => u' = u ∧ (e = .returned (.tuple #[]) ∧ Fr (only p) w (only p) w' ∧ RSt n0 p { s with nest := s.nest - 1 } w') := by
 refine Mb (R := fun e w' => e = .returned (.tuple #[]) ∧ Fr (only p) w (only p) w' ∧ RSt n0 p { s with nest := s.nest - 1 } w') 8 func116 V V V ?_
 have ty90 : By prog 90 false 1 := Q9
 obtain ⟨vb, vt, e0, e1, e2, e3, m⟩ := h.cells
 have hsn := h.sn
 obtain ⟨w2, hst, f2, h2⟩ := h.setNest (k := s.nest - 1) (by omega)
 refine Aa (Ai V (A4 ty90 hb.cell0) V (As V V (Ab V (Kb _ _ _) V (Ai V (A4 Hm e3) V (Al V V (v := .int .i64 ((s.nest - 1 : Nat) : Int)) ?_ V ?_)))))
 · show Result.ok (Value.int .i64 (IntKind.i64.wrap ((s.nest : Int) - 1))) _ = _
   rw [B4 (by unfold Bu; omega), show (s.nest : Int) - 1 = ((s.nest - 1 : Nat) : Int) by omega]
 exact As V V (Ab V (Kb _ _ _) V (An V V hst (A2 fun a ha => AV V ha ⟨rfl, f2, h2⟩)))
end Go.Sx
