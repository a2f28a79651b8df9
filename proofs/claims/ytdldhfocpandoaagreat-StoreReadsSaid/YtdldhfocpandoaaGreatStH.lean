import Derived.Test.YtdldhfocpandoaaGreatStG
import Derived.Laws.IdiomStrings
import Derived.Lib.Strings
set_option maxHeartbeats 8000000
set_option maxRecDepth 8000
namespace Go.Sx
open Go.Proofs Go.Proofs.Tryz
open Go.ChangeMaps (setBlock heap_setBlock_same heap_setBlock_other)
theorem toList_inj {x y : ByteArray} (h : x.data.toList = y.data.toList) : x = y := by
 cases x; cases y; simp only at h; congr 1; exact Array.toList_inj.mp h
theorem Mc {x y : ByteArray} {r r' : List UInt8} (h : D3 x ++ r = D3 y ++ r') : x = y ∧ r = r' := by
 simp only [D3, List.append_assoc] at h
 obtain ⟨h1, h2⟩ := Lh _ _ _ _ h
 have hx : x.data.toList.length = x.size := by simp only [Array.length_toList]; rfl
 have hy : y.data.toList.length = y.size := by simp only [Array.length_toList]; rfl
 obtain ⟨h3, h4⟩ := List.append_inj h2 (by omega)
 exact ⟨toList_inj h3, h4⟩
theorem Il : ∀ (l1 l : List ByteArray) (b r : List UInt8), Bi l1 ++ b = Bi l ++ r → l1.length ≤ l.length → ∃ l2, l = l1 ++ l2 ∧ b = Bi l2 ++ r
 | [], l, b, r, h, _ => ⟨l, rfl, by simpa [Bi] using h⟩
 | x :: l1, [], b, r, h, hl => by simp at hl
 | x :: l1, y :: l, b, r, h, hl => by
  simp only [Bi, List.append_assoc] at h
  obtain ⟨rfl, h2⟩ := Mc h
  obtain ⟨l2, rfl, h3⟩ := Il l1 l b r h2 (by simpa using hl)
  exact ⟨l2, rfl, h3⟩
theorem Cx {w : World} {v : Value} {bs : List UInt8} (h : Bts w v bs) : (convert 22 9 v).run prog w = .ok (.string ⟨bs.toArray⟩) w := by
 rcases h.2 with ⟨rfl, rfl⟩ | ⟨b, o, cap, rfl, hb, ha, hc⟩
 · simp [convert, runUnderlying22, runUnderlying9, runUnderlying5, Conv.bytesToString]
   rfl
 · refine run_convert_bytes_back w 22 9 5 _ cap bs underlying22 underlying5 underlying9 (fun j hj => ?_)
   rw [Addr.add_lit]
   have := ha j (bv bs[j]) (by simp [hj])
   rw [this]; rfl
def Seen (w : World) (m : Nat) (tab : List ByteArray) : Prop :=
 ∃ es clock, w.heap[m]? = some (.map es clock) ∧ es.toList.map (·.key) = tab.map Value.string ∧ ∀ e ∈ es.toList, e.val = .int .i64 1
theorem Seen.agree {w w' : World} {m : Nat} {tab : List ByteArray} (h : Seen w m tab) (hb : w'.heap[m]? = w.heap[m]?) : Seen w' m tab := by
 obtain ⟨es, clock, h1, h2⟩ := h
 exact ⟨es, clock, hb.trans h1, h2⟩
theorem Seen.count {w : World} {m : Nat} {tab : List ByteArray} {x : ByteArray} (h : Seen w m tab) (ht : ∀ x ∈ tab, x.size ≤ maxLen) (hn : tab.Nodup) (hx : x.size ≤ maxLen) :
 ∃ (c : Nat) (w' : World), (Instr.lookup 131 (.map (some m)) (.string x) false).run prog w = .ok (.int .i64 (c : Int)) w ∧ c ≤ 1 ∧
  (Instr.mapUpdate 131 (.map (some m)) (.string x) (.int .i64 ((c + 1 : Nat) : Int))).run prog w = .ok () w' ∧ Fr (only m) w (only m) w' ∧
  (Instr.lookup 131 (.map (some m)) (.string x) false).run prog w' = .ok (.int .i64 ((c + 1 : Nat) : Int)) w' ∧ (x ∈ tab → c = 1) ∧ (x ∉ tab → c = 0 ∧ Seen w' m (tab ++ [x])) := by
 obtain ⟨es, clock, hb, hk, hv⟩ := h
 have hkeys := Hn hk ht
 have hc := fun w em => key9.check w em (Ey hx)
 have mem_key : ∀ e ∈ es.toList, e.key = .string x → x ∈ tab := by
  intro e he hek
  have : e.key ∈ tab.map Value.string := by rw [← hk]; exact List.mem_map.2 ⟨e, he, rfl⟩
  obtain ⟨y, hy, hye⟩ := List.mem_map.1 this
  rw [hek] at hye
  cases hye; exact hy
 rcases key9.find w (Ey hx) es.toList hkeys with ⟨hf, hno⟩ | ⟨j, e, hf, hj, he⟩
 · have hnx : x ∉ tab := by
    intro hm
    have : Value.string x ∈ es.toList.map (·.key) := by rw [hk]; exact List.mem_map.2 ⟨x, hm, rfl⟩
    obtain ⟨e, he, hee⟩ := List.mem_map.1 this
    exact hno e he hee
   let es' := es.push ⟨.string x, .int .i64 1, clock⟩
   have hb' : (setBlock w m (.map es' (clock + 1))).heap[m]? = some (.map es' (clock + 1)) := heap_setBlock_same hb _
   have hseen : Seen (setBlock w m (.map es' (clock + 1))) m (tab ++ [x]) := ⟨es', clock + 1, hb', by simp [es', hk], by
    intro e he
    simp only [es', Array.toList_push, List.mem_append, List.mem_singleton] at he
    rcases he with he | rfl
    · exact hv e he
    · rfl⟩
   refine ⟨0, setBlock w m (.map es' (clock + 1)), ?_, by omega, ?_, ⟨rfl, rfl, rfl, by simp [setBlock], fun b _ hn => heap_setBlock_other hb _ (fun e => hn e), fun _ h => .inl h⟩, ?_, fun h => absurd h hnx, fun _ => ⟨rfl, hseen⟩⟩
   · simp [Instr.lookup, runUnderlying131, C8 hb, hc, hf, zeroValue3]
   · simp [Instr.mapUpdate, runUnderlying131, C8 hb, hc, hf, setBlock, setObj, Sem.run, hb, es']
   · have hkeys' : ∀ e ∈ es'.toList, ∃ l, keyOf prog 9 e.key = some l := by
      intro e he
      simp only [es', Array.toList_push, List.mem_append, List.mem_singleton] at he
      rcases he with he | rfl
      · exact hkeys e he
      · exact ⟨_, Ey hx⟩
     rcases key9.find (setBlock w m (.map es' (clock + 1))) (Ey hx) es'.toList hkeys' with ⟨_, hno'⟩ | ⟨j, e, hf', hj, he⟩
     · exact absurd V (hno' ⟨.string x, .int .i64 1, clock⟩ (by simp [es']))
     · have hval : e.val = .int .i64 1 := by
        have hm := List.mem_of_getElem? hj
        simp only [es', Array.toList_push, List.mem_append, List.mem_singleton] at hm
        rcases hm with hm | rfl
        · exact hv e hm
        · rfl
       simp [Instr.lookup, runUnderlying131, C8 hb', hc, hf', hval]
 · have hxt : x ∈ tab := mem_key e (List.mem_of_getElem? hj) he
   have hval : e.val = .int .i64 1 := hv e (List.mem_of_getElem? hj)
   have hjl : j < es.size := by simpa using (List.getElem?_eq_some_iff.1 hj).1
   have hej : es[j]? = some e := by simpa using hj
   let es' := es.modify j fun e => { e with key := .string x, val := .int .i64 2 }
   have hb' : (setBlock w m (.map es' clock)).heap[m]? = some (.map es' clock) := heap_setBlock_same hb _
   refine ⟨1, setBlock w m (.map es' clock), ?_, Nat.le_refl _, ?_, ⟨rfl, rfl, rfl, by simp [setBlock], fun b _ hn => heap_setBlock_other hb _ (fun e => hn e), fun _ h => .inl h⟩, ?_, fun _ => rfl, fun h => absurd hxt h⟩
   · simp [Instr.lookup, runUnderlying131, C8 hb, hc, hf, hval]
   · have hst := key9.stays w (Ey hx)
     simp [Instr.mapUpdate, runUnderlying131, C8 hb, hc, hf, setBlock, setObj, Sem.run, hb, es', hej, he, hst]
   · have hes' : ∀ i, es'.toList[i]? = if j = i then some { e with key := .string x, val := .int .i64 2 } else es.toList[i]? := by
      intro i
      simp only [es', Array.getElem?_toList, Array.getElem?_modify]
      split
      · rename_i h; subst h; rw [hej]; rfl
      · rfl
     have hkeys' : ∀ e ∈ es'.toList, ∃ l, keyOf prog 9 e.key = some l := by
      intro e' he'
      obtain ⟨i, hi⟩ := List.getElem?_of_mem he'
      rw [hes' i] at hi
      split at hi
      · cases hi; exact ⟨_, Ey hx⟩
      · exact hkeys e' (List.mem_of_getElem? hi)
     rcases key9.find (setBlock w m (.map es' clock)) (Ey hx) es'.toList hkeys' with ⟨_, hno'⟩ | ⟨i, e', hf', hi, he'⟩
     · have := hes' j
       rw [if_pos rfl] at this
       exact absurd V (hno' _ (List.mem_of_getElem? this))
     · have hval' : e'.val = .int .i64 2 := by
        have h2 := hes' i
        rw [hi] at h2
        split at h2
        · cases h2; rfl
        · rename_i hji
          have k1 : tab[j]? = some x := by
           have h1 : (tab.map Value.string)[j]? = some e.key := by rw [← hk]; simp [hej]
           rw [he] at h1
           simpa using h1
          have k2 : tab[i]? = some x := by
           have h1 : (tab.map Value.string)[i]? = some e'.key := by rw [← hk, List.getElem?_map, ← h2]; rfl
           rw [he'] at h1
           simpa using h1
          obtain ⟨l1, g1⟩ := List.getElem?_eq_some_iff.1 k1
          obtain ⟨l2, g2⟩ := List.getElem?_eq_some_iff.1 k2
          exact absurd ((List.getElem_inj hn).1 (g1.trans g2.symm)) hji
       simp [Instr.lookup, runUnderlying131, C8 hb', hc, hf', hval']
end Go.Sx
namespace Go.Sx
open Go.Proofs Go.Proofs.Tryz
structure SSt (base p m : Nat) (s : RS) (w : World) : Prop where
 lp : p < base
 ln : base ≤ w.heap.size
 mem : ∃ vb vt, N5 w.heap.size p s w vb vt ∧ (∀ k, Bk vb k → k < base) ∧ (∀ k, Bk vt k → base ≤ k ∧ k ≠ m)
 bm : base ≤ m
 ml : m < w.heap.size
 nodup : s.tab.Nodup
 tabs : ∀ x ∈ s.tab, x.size ≤ maxLen
 sb : s.b.length ≤ 2 ^ 25
 st : s.tab.length ≤ 2 ^ 25
 su : s.used ≤ s.tab.length
 sn : s.nest ≤ 1001
section
variable {base p m : Nat} {s : RS} {w : World}
theorem SSt.toR (h : SSt base p m s w) : RSt w.heap.size p s w := by
 obtain ⟨vb, vt, M, _, _⟩ := h.mem
 exact ⟨Nat.lt_of_lt_of_le h.lp h.ln, Nat.le_refl _, ⟨vb, vt, M⟩, h.nodup, h.tabs, h.sb, h.st, h.su, h.sn⟩
theorem SSt.after (h : SSt base p m s w) {s' : RS} {w' : World} (h1 : RSt w.heap.size p s' w') (f : Fr (only p) w (only p) w') (tr : ML p w w') (_ht : s'.tab = s.tab) : SSt base p m s' w' := by
 obtain ⟨vb, vt, M, hb, hv⟩ := h.mem
 obtain ⟨vb', vt', M'⟩ := h1.mem
 have c0 : w.cell? ⟨p, 0, none⟩ = some vb := by rw [M.blk.cell]; rfl
 have c1 : w.cell? ⟨p, 1, none⟩ = some vt := by rw [M.blk.cell]; rfl
 have d0 : w'.cell? ⟨p, 0, none⟩ = some vb' := by rw [M'.blk.cell]; rfl
 have d1 : w'.cell? ⟨p, 1, none⟩ = some vt' := by rw [M'.blk.cell]; rfl
 have e : vt' = vt := by have := tr.1; rw [c1, d1] at this; exact Option.some.inj this
 subst e
 refine ⟨h.lp, Nat.le_trans h.ln f.size, ⟨vb', vt', ⟨M'.blk, M'.bts, fun k hk => ⟨Nat.lt_of_lt_of_le (M'.nb k hk).1 f.size, (M'.nb k hk).2⟩, M'.row, fun k hk => ⟨Nat.lt_of_lt_of_le (M'.nt k hk).1 f.size, (M'.nt k hk).2⟩⟩, fun k hk => hb k (tr.2 _ _ c0 d0 k hk), hv⟩, h.bm, Nat.lt_of_lt_of_le h.ml f.size, h1.nodup, h1.tabs, h1.sb, h1.st, h1.su, h1.sn⟩
theorem SSt.keep (h : SSt base p m s w) {U U' : Nat → Prop} {w' : World} (f : Fr U w U' w') (hU : ∀ k, U k → k = m) : SSt base p m s w' := by
 obtain ⟨vb, vt, M, hb, hv⟩ := h.mem
 have hbm := h.bm
 have hlp := h.lp
 have hln := h.ln
 have k1 : ∀ k, k < w.heap.size → k ≠ m → w'.heap[k]? = w.heap[k]? := fun k hk hn => f.blk k hk (fun hu => hn (hU k hu))
 refine ⟨h.lp, Nat.le_trans h.ln f.size, ⟨vb, vt, ⟨(k1 p (by omega) (by omega)).trans M.blk, M.bts.keepB f.size (fun k hk => k1 k (M.nb k hk).1 (by have := hb k hk; omega)), fun k hk => ⟨Nat.lt_of_lt_of_le (M.nb k hk).1 f.size, (M.nb k hk).2⟩, AP M.row (fun k hk => k1 k (M.nt k hk).1 (hv k hk).2), fun k hk => ⟨Nat.lt_of_lt_of_le (M.nt k hk).1 f.size, (M.nt k hk).2⟩⟩, hb, hv⟩, h.bm, Nat.lt_of_lt_of_le h.ml f.size, h.nodup, h.tabs, h.sb, h.st, h.su, h.sn⟩
theorem SSt.setB (h : SSt base p m s w) {vb vt : Value} (M : N5 w.heap.size p s w vb vt) {v' : Value} {bs : List UInt8} (hb' : Bts w v' bs) (ho : ∀ k, Bk v' k → Bk vb k) (hl : bs.length ≤ 2 ^ 25) :
 (storeVar 22 ⟨p, 0, none⟩ v').run prog w = .ok () (w.setRow p [v', vt, .int .i64 s.used, .int .i64 s.nest].toArray) ∧ SSt base p m { s with b := bs } (w.setRow p [v', vt, .int .i64 s.used, .int .i64 s.nest].toArray) := by
 obtain ⟨vb0, vt0, M0, hb, hv⟩ := h.mem
 have e := M0.blk.symm.trans M.blk
 simp only [Option.some.injEq, Obj.cells.injEq, and_true] at e
 obtain ⟨rfl, rfl⟩ := e
 have hst := BR (P := prog) (t := 22) (n := 1) (agg := false) (b := p) (o := 0) (v := v') (vs := [v']) CG (by rcases hb'.val with ⟨_, _, rfl, _⟩; rfl) rfl (by rcases hb'.val with ⟨_, _, rfl, _⟩; simp [Value.oneCell']) M.blk (by simp)
 rw [Hj] at hst
 have hlp := h.lp
 refine ⟨hst, ⟨h.lp, by simpa using h.ln, ⟨v', vt, ⟨M.blk.setRow _, hb'.keepB (by simp) (fun k hk => setRow_other _ _ _ _ (M.nb k (ho k hk)).2), fun k hk => by simpa using M.nb k (ho k hk), AP M.row (fun k hk => setRow_other _ _ _ _ (M.nt k hk).2), fun k hk => by simpa using M.nt k hk⟩, fun k hk => hb k (ho k hk), hv⟩, h.bm, by simpa using h.ml, h.nodup, h.tabs, hl, h.st, h.su, h.sn⟩⟩
theorem SSt.setT (h : SSt base p m s w) {vb vt : Value} (M : N5 w.heap.size p s w vb vt) {v' : Value} {w' : World} {x : ByteArray} (f : Fr (Bk vt) w (Bk v') w') (hr : w'.ownsRow 0 9 1 v' (s.tab ++ [x]).length ((s.tab ++ [x]).map Value.string)) (hx : x.size ≤ maxLen) (hn : x ∉ s.tab) (hl : s.tab.length + 1 ≤ 2 ^ 25) :
 (storeVar 44 ⟨p, 1, none⟩ v').run prog w' = .ok () (w'.setRow p [vb, v', .int .i64 s.used, .int .i64 s.nest].toArray) ∧ SSt base p m { s with tab := s.tab ++ [x] } (w'.setRow p [vb, v', .int .i64 s.used, .int .i64 s.nest].toArray) ∧ (w'.setRow p [vb, v', .int .i64 s.used, .int .i64 s.nest].toArray).heap[m]? = w.heap[m]? := by
 obtain ⟨vb0, vt0, M0, hb, hv⟩ := h.mem
 have e := M0.blk.symm.trans M.blk
 simp only [Option.some.injEq, Obj.cells.injEq, and_true] at e
 obtain ⟨rfl, rfl⟩ := e
 have hlp := h.lp
 have hln := h.ln
 have hbm := h.bm
 have hml := h.ml
 have hpv : w'.heap[p]? = w.heap[p]? := f.blk p (by omega) (fun hp => by have := (hv p hp).1; omega)
 have hblk : Blk w' p [vb, vt, .int .i64 s.used, .int .i64 s.nest] 92 := hpv.trans M.blk
 have hst := BR (P := prog) (w := w') (t := 44) (n := 1) (agg := false) (b := p) (o := 1) (v := v') (vs := [v']) FG (DI hr).1 rfl (by simpa using (DI hr).2) hblk (by simp)
 rw [LX] at hst
 have hnew : ∀ k, Bk v' k → base ≤ k ∧ k ≠ m := by
  intro k hk
  rcases f.own k hk with h1 | h1
  · exact hv k h1
  · exact ⟨by omega, by omega⟩
 refine ⟨hst, ⟨h.lp, by simp only [BB]; exact Nat.le_trans h.ln f.size, ⟨vb, v', ⟨hblk.setRow _, ?_, ?_, ?_, ?_⟩, hb, hnew⟩, h.bm, by simp only [BB]; exact Nat.lt_of_lt_of_le h.ml f.size, ?_, ?_, h.sb, by simpa using hl, by have := h.su; simp; omega, h.sn⟩, ?_⟩
 · refine M.bts.keepB (by simpa using f.size) (fun k hk => ?_)
   rw [setRow_other _ _ _ _ (M.nb k hk).2, f.blk k (M.nb k hk).1 (fun hvt => by have := hb k hk; have := (hv k hvt).1; omega)]
 · intro k hk; have := M.nb k hk; exact ⟨by simp only [BB]; exact Nat.lt_of_lt_of_le this.1 f.size, this.2⟩
 · exact AP hr (fun k hk => setRow_other _ _ _ _ (by have := (hnew k hk).1; omega))
 · intro k hk
   exact ⟨by simpa using AT hr hk, by have := (hnew k hk).1; omega⟩
 · rw [List.nodup_append]
   exact ⟨h.nodup, by simp, fun a ha b hb => by rw [List.mem_singleton.1 hb]; exact fun e => hn (e ▸ ha)⟩
 · intro y hy
   rcases List.mem_append.1 hy with h1 | h1
   · exact h.tabs y h1
   · rw [List.mem_singleton.1 h1]; exact hx
 · rw [setRow_other _ _ _ _ (by omega), f.blk m hml (fun hvt => (hv m hvt).2 rfl)]
end
end Go.Sx
namespace Go.Sx
open Go.Proofs Go.Proofs.Tryz
def Q1 (p : Nat) (bs : List UInt8) (w : World) (v : Value) (w' : World) : Prop :=
 v = .tuple #[] ∧ ∃ tab r, bs = num tab.length ++ Bi tab ++ r ∧ RSt w'.heap.size p ⟨r, tab, 0, 0⟩ w' ∧ Fr (only p) w (only p) w'
def Pi (p : Nat) (bs : List UInt8) (w : World) (ch : List PanicEntry) (w' : World) : Prop :=
 ch = CL ∧ (∀ tab r, tab.Nodup → bs ≠ num tab.length ++ Bi tab ++ r) ∧ Fr (only p) w (only p) w'
theorem Le {w : World} : w.ownsRow 0 9 1 (.slice none 0 0) ([] : List ByteArray).length (([] : List ByteArray).map Value.string) := World.ownsRow_nil _ _ _ _
theorem ID {p base : Nat} {w w1 w2 : World} {U' : Nat → Prop} (f0 : Fr (fun _ => False) w (fun _ => False) w1) (f : Fr (fun b => b = p ∨ base ≤ b) w1 U' w2) (hb : w.heap.size ≤ base) : Fr (only p) w (only p) w2 :=
 ⟨f.os.trans f0.os, f.tape.trans f0.tape, f.output.trans f0.output, Nat.le_trans f0.size f.size, fun b hb' hn => by
  have := f0.size
  rw [f.blk b (by omega) (fun h => h.elim hn (fun h => by omega)), f0.blk b hb' (fun h => h)], fun b hb' => .inl hb'⟩
theorem Sw {w : World} {p : Nat} {vb : Value} {bs : List UInt8} (hblk : Blk w p [vb, .slice none 0 0, .int .i64 0, .int .i64 0] 92) (hbts : Bts w vb bs) (hnb : ∀ k, Bk vb k → k < w.heap.size ∧ k ≠ p) (hl : bs.length ≤ 2 ^ 25) :
 Calls prog 31 [ptr p].toArray w (Dq (Q1 p bs w) (Pi p bs w)) := by
 refine AB 49 func31 V V V ?_
 refine Af (Aa (Kj Jr V ?_))
 have f0 : Fr (fun _ => False) w (fun _ => False) (w.alloc (.map #[] 0)) := Fr.alloc _ _ _
 have s0 : (w.alloc (.map #[] 0)).heap.size = w.heap.size + 1 := by simp
 have a0 : (w.alloc (.map #[] 0)).heap[w.heap.size]? = some (.map #[] 0) := heap_alloc_new _ _
 generalize w.alloc (.map #[] 0) = w1 at f0 s0 a0 ⊢
 have hpl := hblk.lt
 have S0 : SSt w.heap.size p w.heap.size ⟨bs, [], 0, 0⟩ w1 := by
  refine ⟨hpl, f0.size, ⟨vb, .slice none 0 0, ⟨(f0.blk p hpl (fun h => h)).trans hblk, hbts.keep0 f0, fun k hk => ⟨by have := (hnb k hk).1; omega, (hnb k hk).2⟩, Le, fun k hk => (E6 k hk).elim⟩, fun k hk => (hnb k hk).1, fun k hk => (E6 k hk).elim⟩, Nat.le_refl _, by omega, by simp, by simp, hl, by simp, by simp, by simp⟩
 have seen0 : Seen w1 w.heap.size [] := ⟨#[], 0, a0, rfl, by simp⟩
 generalize hm : w.heap.size = m at *
 refine Ah V V (Ar [(0, ptr p), (2, .map (some m))] ⟨V, V, trivial⟩ ?_)
 refine Af (Aa (Ac V V (Aj call54 V V (Kv S0.toR) ?_ ?_)))
 rotate_left
 · rintro ch w2 ⟨rfl, hno, s', h1, f1, _⟩ a ha
   refine Am (Av ha ⟨rfl, fun tab r _ e => ?_, ?_⟩)
   · refine hno tab.length ⟨Bi tab ++ r, [], 0, 0⟩ (RS.eat_iff.2 ⟨by rw [e, List.append_assoc], rfl⟩) ?_
     have hge : ∀ l : List ByteArray, l.length ≤ (Bi l).length := by
      intro l
      induction l with
      | nil => simp
      | cons x l ih =>
       have := DT x.size
       simp only [Bi, D3, List.length_append, List.length_cons]; omega
     have := hge tab
     show tab.length ≤ (Bi tab ++ r).length
     rw [List.length_append]; omega
   · exact ID f0 (f1.drop (fun b hb => .inl hb) : Fr (fun b => b = p ∨ m ≤ b) w1 _ w2) (by omega)
 rintro _ w2 ⟨n, s1, he, hle, rfl, h1, f1, tr1⟩
 obtain ⟨he1, he2⟩ := RS.eat_iff.1 he
 simp only at he1
 have hs1 : s1.tab = [] ∧ s1.used = 0 ∧ s1.nest = 0 := by rw [he2]; exact ⟨rfl, rfl, rfl⟩
 have S1 := S0.after h1 f1 tr1 hs1.1
 have hn25 : n ≤ 2 ^ 25 := by have := h1.sb; omega
 have F1 : Fr (fun b => b = p ∨ m ≤ b) w1 (fun b => b = p ∨ m ≤ b) w2 := f1.drop (fun b hb => .inl hb)
 refine Ac V V (Ar [(0, ptr p), (2, .map (some m)), (7, .int .i64 ((n : Nat) : Int)), (8, .int .i64 ((0 : Nat) : Int))] ⟨V, V, V, V, trivial⟩ ?_)
 refine A1 (AW (ι := Nat × RS) (fun i => [(0, ptr p), (2, .map (some m)), (7, .int .i64 ((n : Nat) : Int)), (8, .int .i64 ((i.1 : Nat) : Int))])
  (fun i w' => i.1 ≤ n ∧ SSt m p m i.2 w' ∧ Seen w' m i.2.tab ∧ Fr (fun b => b = p ∨ m ≤ b) w1 (fun b => b = p ∨ m ≤ b) w' ∧ i.2.tab.length = i.1 ∧ s1.b = Bi i.2.tab ++ i.2.b ∧ i.2.used = 0 ∧ i.2.nest = 0) (fun i => n - i.1) (0, s1)
  ⟨V, V, V, V, trivial⟩ ⟨Nat.zero_le _, S1, by rw [hs1.1]; exact seen0.agree (f1.blk m (by omega) (fun e => by have : m = p := e; omega)), F1, by rw [hs1.1]; rfl, by rw [hs1.1]; rfl, hs1.2.1, hs1.2.2⟩ ?_)
 rintro ⟨i, si⟩ w3 ⟨hi, S, seen, F, htl, hsb, hus, hne⟩
 simp only at hi S seen F htl hsb hus hne ⊢
 -- what a table would have to begin with
 have goal : ∀ tab r, bs = num tab.length ++ Bi tab ++ r → tab.length = n ∧ ∃ l2, tab = si.tab ++ l2 ∧ si.b = Bi l2 ++ r := by
  intro tab r e
  have e' : num n ++ s1.b = num tab.length ++ (Bi tab ++ r) := by rw [← he1, e, List.append_assoc]
  obtain ⟨h1, h2⟩ := Lh _ _ _ _ e'
  refine ⟨h1.symm, ?_⟩
  rw [hsb] at h2
  exact Il _ _ _ _ h2 (by omega)
 refine Af (Aa (Al V V V V (Ae (Af ?_))))
 refine AK V (fun ht => A_ fun a ha => Ad ?_) (fun hf => AQ fun a ha => Aq (Aq (A3 ?_)))
 · have hlt : i < n := by simp at ht; omega
   have pan : ∀ (ch : List PanicEntry) (w' : World) (a : Act), True := fun _ _ _ => trivial
   refine A8 ha (Af (A1 (Af (Aa (Ac V V (Aj call54 V V (Kv S.toR) ?_ ?_))))))
   rotate_left
   · rintro ch w4 ⟨rfl, hno, s', h4, f4, _⟩ a ha
     refine Am (AD (Am (Am (AD (Av ha ⟨rfl, fun tab r _ e => ?_, ?_⟩)))))
     · obtain ⟨h5, l2, rfl, h6⟩ := goal tab r e
       cases l2 with
       | nil => simp at h5; omega
       | cons x l2 =>
        refine hno x.size ⟨x.data.toList ++ (Bi l2 ++ r), si.tab, si.used, si.nest⟩ (RS.eat_iff.2 ⟨by rw [h6]; simp only [Bi, D3, List.append_assoc], rfl⟩) ?_
        show x.size ≤ (x.data.toList ++ (Bi l2 ++ r)).length
        have : x.data.toList.length = x.size := by simp only [Array.length_toList]; rfl
        rw [List.length_append]; omega
     · exact ID f0 (F.trans (f4.drop (fun b hb => .inl hb) : Fr (fun b => b = p ∨ m ≤ b) w3 _ w4)) (by omega)
   rintro _ w4 ⟨q, s4, he4, hle4, rfl, h4, f4, tr4⟩
   obtain ⟨hb4, hs4⟩ := RS.eat_iff.1 he4
   have ht4 : s4.tab = si.tab ∧ s4.used = 0 ∧ s4.nest = 0 := by rw [hs4]; exact ⟨rfl, hus, hne⟩
   have S4 := S.after h4 f4 tr4 ht4.1
   have hmp : m ≠ p := by have := S.lp; omega
   have seen4 : Seen w4 m s4.tab := by rw [ht4.1]; exact seen.agree (f4.blk m S.ml hmp)
   have F4 : Fr (fun b => b = p ∨ m ≤ b) w1 (fun b => b = p ∨ m ≤ b) w4 := F.trans (f4.drop (fun b hb => .inl hb))
   obtain ⟨vb4, vt4, M4, _, _⟩ := S4.mem
   have d0 : w4.cell? ⟨p, 0, none⟩ = some vb4 := by rw [M4.blk.cell]; rfl
   obtain ⟨v5, hsl5, hbts5, hown5⟩ := Do M4.bts (lo := none) (hi := some (.int .i64 (q : Int))) (l := 0) (k := q) (.inl ⟨rfl, rfl⟩) (.inr rfl) (Nat.zero_le _) hle4
   obtain ⟨v6, hsl6, hbts6, hown6⟩ := Do M4.bts (lo := some (.int .i64 (q : Int))) (hi := none) (l := q) (k := s4.b.length) (.inr rfl) (.inl ⟨rfl, rfl⟩) hle4 (Nat.le_refl _)
   rw [List.take_length] at hbts6
   rw [List.drop_zero] at hbts5
   have hsb4 := S4.sb
   obtain ⟨hst5, S5⟩ := S4.setB M4 hbts6 hown6 (by simp only [List.length_drop]; omega)
   generalize hx : (⟨(s4.b.take q).toArray⟩ : ByteArray) = x at *
   have hxl : x.data.toList = s4.b.take q := by rw [← hx]
   have hxs : x.size = q := by
    have : x.size = x.data.toList.length := by simp only [Array.length_toList]; rfl
    rw [this, hxl]; simp; omega
   have hxm : x.size ≤ maxLen := by simp only [maxLen]; omega
   have hsplit : s4.b = x.data.toList ++ s4.b.drop q := by rw [hxl, List.take_append_drop]
   have hent : si.b = D3 x ++ s4.b.drop q := by rw [hb4, D3, hxs, List.append_assoc, ← hsplit]
   have hstr : (convert 22 9 v5).run prog w4 = .ok (.string x) w4 := by rw [← hx]; exact Cx hbts5
   refine Ah V V (Ae ?_)
   refine Af (Aa (Ac V V (As V V (Ab V (GP _ _ _) V (Ai V (A4 CG d0) V (Ac V V (DV (vl := none) (vh := some (.int .i64 ((q : Nat) : Int))) V V V (hsl5 _) V ?_)))))))
   refine AJ V hstr V (Ah V V (Ae ?_))
   refine Af (Aa (Ac V V (Ac V V (As V V (Ab V (GP _ _ _) V (Ai V (A4 CG d0) V (Ac V V (DV (vl := some (.int .i64 ((q : Nat) : Int))) (vh := none) V V V (hsl6 _) V ?_))))))))
   refine As V V (Ab V (GP _ _ _) V (An V V hst5 (Ae ?_)))
   have F5 : Fr (fun b => b = p ∨ m ≤ b) w1 (fun b => b = p ∨ m ≤ b) (w4.setRow p [v6, vt4, .int .i64 s4.used, .int .i64 s4.nest].toArray) := F4.trans (Fr.setRow _ (.inl rfl))
   have seen5 : Seen (w4.setRow p [v6, vt4, .int .i64 s4.used, .int .i64 s4.nest].toArray) m s4.tab := seen4.agree (setRow_other _ _ _ _ hmp)
   generalize w4.setRow p [v6, vt4, .int .i64 s4.used, .int .i64 s4.nest].toArray = w5 at S5 F5 seen5 ⊢
   obtain ⟨c, w6, hlk, hc1, hup, f6, hlk2, hin, hout⟩ := seen5.count S5.tabs S5.nodup hxm
   have S6 := S5.keep f6 (fun k hk => hk)
   have F6 : Fr (fun b => b = p ∨ m ≤ b) w1 (fun b => b = p ∨ m ≤ b) w6 := F5.trans (f6.drop (fun b hb => .inr (by have : b = m := hb; omega)))
   refine Af (Aa (Ac V V (Ac V V (IV V V hlk V (Al V V (v := .int .i64 ((c + 1 : Nat) : Int)) ?_ V (I4 V V V hup (Ae ?_)))))))
   · exact congrArg (fun v => Result.ok v w5) (AS (by omega))
   refine Af (Af (Aa (Ac V V (Ac V V (IV V V hlk2 V (Al V V (Cu (c := decide (0 < c)) (decide_eq_decide.2 (by omega))) V (Ae ?_)))))))
   refine AK V (fun ht => Aa (D7 V V (fun a ha => ?_) V V)) (fun hf => A_ fun a ha => Ad ?_)
   · have hcp : 0 < c := of_decide_eq_true ht
     have hxin : x ∈ si.tab := by
      by_cases h : x ∈ s4.tab
      · rw [← ht4.1]; exact h
      · have := (hout h).1; omega
     refine Am (AD (Am (Am (AD (Av ha ⟨rfl, fun tab r hnd e => ?_, ID f0 F6 (by omega)⟩)))))
     obtain ⟨h5, l2, rfl, h6⟩ := goal tab r e
     cases l2 with
     | nil => simp at h5; omega
     | cons y l2 =>
      rw [hent] at h6
      simp only [Bi, List.append_assoc] at h6
      obtain ⟨rfl, _⟩ := Mc h6
      exact (List.nodup_append.1 hnd).2.2 x hxin x (by simp) V
   · have hc0 : c = 0 := by have := of_decide_eq_false hf; omega
     have hxn : x ∉ s4.tab := fun h => by have := hin h; omega
     obtain ⟨_, seen6⟩ := hout hxn
     obtain ⟨vb6, vt6, M6, _, hv6⟩ := S6.mem
     have g1 : w6.cell? ⟨p, 1, none⟩ = some vt6 := by rw [M6.blk.cell]; rfl
     refine A8 ha (Aa (Ac V V (Ac V V (As V V (Ab V (JW _ _ _) V (Ai V (A4 FG g1) V (Ac V V (A7 V JG V ?_))))))))
     have f7 : Fr (fun _ => False) w6 (fun _ => False) (w6.alloc (.cells [Value.string x].toArray 9)) := Fr.alloc _ _ _
     obtain ⟨v8, w8, hr8, r8, f8⟩ := Fh (w := w6.alloc (.cells [Value.string x].toArray 9)) (ty := 44) (ys := [x]) (DC M6.row _) (Kl (n := 1) (c := 1) AN rfl) (by have := S4.st; simp; omega)
     have f68 : Fr (Bk vt6) w6 (Bk v8) w8 := (Fr.alloc _ _ _).trans f8
     have htab : s4.tab.length = i := by rw [ht4.1]; exact htl
     obtain ⟨hst9, S9, hm9⟩ := S6.setT M6 f68 r8 hxm hxn (by show s4.tab.length + 1 ≤ _; omega)
     refine AU V V hr8 V (As V V (Ab V (JW _ _ _) V (An V V hst9 (A2 fun a ha => Az (Ad ?_)))))
     refine A8 ha (Aa (Al V V V V (Ac V V (A2 fun a ha => Ad ?_))))
     refine ⟨(i + 1, _), ha.weak ⟨rfl, rfl, rfl, by show some _ = some _; rw [AS (by omega)], trivial⟩, ⟨hlt, S9, seen6.agree hm9, ?_, ?_, ?_, ht4.2.1, ht4.2.2⟩, by simp only; omega⟩
     · exact F6.trans ((f68.drop (fun b hb => .inr (hv6 b hb).1)).trans (Fr.setRow _ (.inl V)))
     · show (s4.tab ++ [x]).length = i + 1
       simp [htab]
     · show s1.b = Bi (s4.tab ++ [x]) ++ s4.b.drop q
       rw [G3, ht4.1, List.append_assoc, ← hent]; exact hsb
 · have : i = n := by simp at hf; omega
   subst this
   refine AV V ha ⟨rfl, si.tab, si.b, ?_, ?_, ID f0 F (by omega)⟩
   · rw [htl, List.append_assoc, ← hsb]; exact he1
   · have := S.toR
     cases si; simp only at hus hne; subst hus hne; exact this
end Go.Sx
namespace Go.Sx
open Go.Proofs Go.Proofs.Tryz
def Kc (bs : List UInt8) (t : T) : Prop :=
 ∃ tab r s', bs = num tab.length ++ Bi tab ++ r ∧ tab.Nodup ∧ CK t (.st .sheet) ⟨r, tab, 0, 0⟩ = some s' ∧ s'.b = [] ∧ s'.used = tab.length
def body (bs : List UInt8) : List UInt8 := (bs.take (bs.length - 4)).drop 4
structure DZ (bs : List UInt8) (t : T) : Prop where
 long : bs.length ≤ 16777216
 short : 9 ≤ bs.length
 magic : bs.take 4 = magicB
 sum : BP (bs.take (bs.length - 4)) = bs
 parse : Kc (body bs) t
def Fa (bs : List UInt8) : Int :=
 if 16777216 < bs.length then 2 else if bs.length < 9 ∨ bs.take 4 ≠ magicB then 5 else if BP (bs.take (bs.length - 4)) ≠ bs then 440 else 5
def zsheet : List Value := [.string ⟨#[]⟩, .slice none 0 0, .slice none 0 0, .slice none 0 0, .slice none 0 0, .slice none 0 0, .slice none 0 0, .slice none 0 0, .slice none 0 0, .slice none 0 0]
theorem Iy (w : World) : (zeroValue 36).run prog w = .ok (.agg zsheet.toArray) w := zeroValue36 w
def Jy : T := .agg .sheet [.str ⟨#[]⟩, .list [], .list [], .list [], .list [], .list [], .list [], .list [], .list [], .list []]
theorem Hc {w : World} {S : Nat → Prop} : Rep w S Jy (.st .sheet) zsheet := by
 simp only [Jy, zsheet, Rep, RepF, SN.fields, SN.size, Ty.size, List.length_cons, List.length_nil, List.drop_succ_cons, List.drop_zero, List.take_succ_cons, List.take_zero, Nat.reduceAdd, Jc, true_and, and_true, true_or]
 exact Nat.zero_le _
def Oe (bs : List UInt8) (w : World) (v : Value) (w' : World) : Prop :=
 ∃ cs e, v = .tuple #[.agg cs.toArray, .int .i64 e] ∧ Fr (fun _ => False) w (fun _ => False) w' ∧
  ((∃ t, DZ bs t ∧ e = 0 ∧ Rep w' (fun b => w.heap.size ≤ b) t (.st .sheet) cs) ∨ ((∀ t, ¬ DZ bs t) ∧ e = Fa bs ∧ cs = zsheet))
theorem Db {w : World} : (Instr.build 36 #[]).run prog w = .ok (.agg zsheet.toArray) w := by
 simp [Instr.build, zeroValue36, runUnderlying36, Value.cells, Instr.fill, zsheet]
def E2 (w : World) (b c : Nat) (x : List Value) (e : Int) : World := (w.setRow b x.toArray).setRow c [Value.int .i64 e].toArray
theorem GI : ∀ x ∈ zsheet, x.oneCell' = true := by
 intro x hx; simp only [zsheet, List.mem_cons, List.not_mem_nil, or_false] at hx
 rcases hx with h | h | h | h | h | h | h | h | h | h <;> subst h <;> rfl
theorem EW {w : World} {b : Nat} {cs vs : List Value} (hb : Blk w b cs 36) (hc : cs.length = 10) (hv : vs.length = 10) (h1 : ∀ x ∈ vs, x.oneCell' = true) : (storeVar 36 ⟨b, 0, none⟩ (.agg vs.toArray)).run prog w = .ok () (w.setRow b vs.toArray) := by
 have := BR (P := prog) (v := .agg vs.toArray) EE rfl hv h1 hb (o := 0) (by omega)
 rwa [show Ch cs 0 vs = vs by simp [Ch, hc, hv]] at this
theorem KZ {w : World} {c : Nat} {y : Value} {e : Int} (hc : Blk w c [y] 37) : (storeVar 37 ⟨c, 0, none⟩ (.int .i64 e)).run prog w = .ok () (w.setRow c [Value.int .i64 e].toArray) := by
 have := BR (P := prog) (w := w) (t := 37) (n := 1) (agg := false) (b := c) (o := 0) (v := .int .i64 e) (vs := [.int .i64 e]) OR rfl rfl (by simp [Value.oneCell']) hc (by simp)
 rwa [EI] at this
theorem d30_idle {w : World} {b c : Nat} : CallsD prog 30 [ptr b, ptr c].toArray .returning w fun e u' w' => e = .returned (.tuple #[]) ∧ u' = .returning ∧ w' = w := by
 refine callsD_of_wpS func30 V fun c₀ cs hu => ?_
 have hrec : recoverD (c₀ :: cs) = none := by simp only [recoverD, hu]
 refine wpS_seq (Fd (n := 12) (.inr ⟨hrec, rfl, rfl⟩) V V (fun a ha => ?_) (EO 12 [ptr b, ptr c] (by simp)))
 refine wpS_of_wp ?_
 refine A8 ha (Af (Aa (Ac V V (AG V V KE GR V (Ae (A9 V (A_ fun a ha => ?_)))))))
 refine ⟨ha.defers, .returning, by rw [← hu], _, results_none V _ _ _, rfl, rfl, rfl⟩
theorem OK {w : World} {b c : Nat} {x : List Value} {y : Value} (hb : Blk w b x 36) (hx : x.length = 10) (hc : Blk w c [y] 37) (hbc : b ≠ c) :
 CallsD prog 30 [ptr b, ptr c].toArray (.panicking CL) w fun e u' w' => e = .returned (.tuple #[]) ∧ u' = Ff ∧ w' = E2 w b c zsheet 5 := by
 refine callsD_of_wpS func30 V fun c₀ cs hu => ?_
 have hrec : recoverD (c₀ :: cs) = some (C2, { c₀ with mode := Ff } :: cs) := by simp only [recoverD, hu, CL, Ff, C2]
 refine wpS_seq (Fd (n := 12) (.inl hrec) V V (fun a ha => ?_) (EO 12 [ptr b, ptr c] (by simp)))
 refine wpS_of_wp ?_
 have hc' : Blk (w.setRow b zsheet.toArray) c [y] 37 := (setRow_other w b c _ (fun e => hbc e.symm)).trans hc
 refine A8 ha (Af (Aa (Ac V V (AG V V EC EL V (Ae (Ax V ?_))))))
 refine Af (Af (Aa (Ac V V (Cl V Iz V (Eg V GX V (AG V V EC Hf V (Ae (A9 V (A_ fun a ha => Ad ?_)))))))))
 refine A8 ha (Aa (Cl V Db V (An V V (EW hb hx V GI) (An V V (KZ hc') (A2 fun a ha => ?_)))))
 refine ⟨ha.defers, Ff, rfl, _, results_none V _ _ _, rfl, rfl, rfl⟩
def MT (b c : Nat) : Deferred := { target := .fn (.func 30) #[ptr b, ptr c], args := #[] ++ #[] }
section
variable {R : Value → World → Prop} {Sx : List PanicEntry → World → Prop} {w : World} {b c : Nat} {x : List Value} {e : Int} {m : Env} {n : Nat} {a : Act} {fn : Func}
theorem NA (hres : fn.results = #[.cell 2 36, .cell 3 37]) (ha : Loc n [] m a) (h2 : m.get 2 = some (ptr b)) (h3 : m.get 3 = some (ptr c)) (hb : Blk w b x 36) (hx : x.length = 10) (hc : Blk w c [.int .i64 e] 37) (h : R (.tuple #[.agg x.toArray, .int .i64 e]) w) :
 bodyPostD prog fn (Dq R Sx) .ret a w := by
 show Leaves prog fn a.tmps (Dq R Sx) a.defers .returning w
 rw [ha.defers]
 exact ⟨_, D1 hres (ha.slot 2 _ h2) (ha.slot 3 _ h3) (Bg EE hx hb.all) (A4 OR hc.cell0), h⟩
theorem Nk (hres : fn.results = #[.cell 2 36, .cell 3 37]) (ha : Loc n [MT b c] m a) (h2 : m.get 2 = some (ptr b)) (h3 : m.get 3 = some (ptr c)) (hb : Blk w b x 36) (hx : x.length = 10) (hc : Blk w c [.int .i64 e] 37) (h : R (.tuple #[.agg x.toArray, .int .i64 e]) w) :
 bodyPostD prog fn (Dq R Sx) .ret a w := by
 show Leaves prog fn a.tmps (Dq R Sx) a.defers .returning w
 rw [ha.defers]
 refine leaves_cons (f := 30) (args := [ptr b, ptr c].toArray) (by simp) (by simp [invoke, call30]) (d30_idle.mono ?_)
 rintro e u' w' ⟨rfl, rfl, rfl⟩
 exact ⟨_, D1 hres (ha.slot 2 _ h2) (ha.slot 3 _ h3) (Bg EE hx hb.all) (A4 OR hc.cell0), h⟩
theorem Nm (hres : fn.results = #[.cell 2 36, .cell 3 37]) (ha : Loc n [MT b c] m a) (h2 : m.get 2 = some (ptr b)) (h3 : m.get 3 = some (ptr c)) {y : Value} (hb : Blk w b x 36) (hx : x.length = 10) (hc : Blk w c [y] 37) (hbc : b ≠ c)
 (h : R (.tuple #[.agg zsheet.toArray, .int .i64 5]) (E2 w b c zsheet 5)) : bodyPostD prog fn (Dq R Sx) (.panic CL) a w := by
 show Leaves prog fn a.tmps (Dq R Sx) a.defers (.panicking CL) w
 rw [ha.defers]
 refine leaves_cons (f := 30) (args := [ptr b, ptr c].toArray) (by simp) (by simp [invoke, call30]) ((OK hb hx hc hbc).mono ?_)
 rintro e u' w' ⟨rfl, rfl, rfl⟩
 have hb' : Blk (E2 w b c zsheet 5) b zsheet 36 := (setRow_other _ c b _ hbc).trans (hb.setRow _)
 have hc' : Blk (E2 w b c zsheet 5) c [.int .i64 5] 37 := Blk.setRow ((setRow_other _ b c _ (fun e => hbc e.symm)).trans hc) _
 exact ⟨_, D1 hres (ha.slot 2 _ h2) (ha.slot 3 _ h3) (Bg EE V hb'.all) (A4 OR hc'.cell0), h⟩
end
end Go.Sx
namespace Go.Sx
open Go.Proofs Go.Proofs.Tryz
theorem Lm {bs : List UInt8} (h : 16777216 < bs.length) : (∀ t, ¬ DZ bs t) ∧ Fa bs = 2 := ⟨fun t d => by have := d.long; omega, by unfold Fa; rw [if_pos h]⟩
theorem Dj {bs : List UInt8} (h0 : ¬ 16777216 < bs.length) (h : bs.length < 9 ∨ bs.take 4 ≠ magicB) : (∀ t, ¬ DZ bs t) ∧ Fa bs = 5 :=
 ⟨fun t d => h.elim (fun h => by have := d.short; omega) (fun h => h d.magic), by unfold Fa; rw [if_neg h0, if_pos h]⟩
theorem Jz {bs : List UInt8} (h0 : ¬ 16777216 < bs.length) (h : ¬ (bs.length < 9 ∨ bs.take 4 ≠ magicB)) (h2 : BP (bs.take (bs.length - 4)) ≠ bs) : (∀ t, ¬ DZ bs t) ∧ Fa bs = 440 :=
 ⟨fun t d => h2 d.sum, by unfold Fa; rw [if_neg h0, if_neg h, if_pos h2]⟩
theorem Ih {bs : List UInt8} (h0 : ¬ 16777216 < bs.length) (h : ¬ (bs.length < 9 ∨ bs.take 4 ≠ magicB)) (h2 : ¬ BP (bs.take (bs.length - 4)) ≠ bs) (h3 : ∀ t, ¬ Kc (body bs) t) : (∀ t, ¬ DZ bs t) ∧ Fa bs = 5 :=
 ⟨fun t d => h3 t d.parse, by unfold Fa; rw [if_neg h0, if_neg h, if_neg h2]⟩
theorem Du {P : Program} {w : World} {t : TypeId} {x y : ByteArray} : (binOp .neq t (.string x) (.string y)).run P w = .ok (.bool (!decide (x = y))) w := by
 have h1 : binOp .neq t (.string x) (.string y) = pure (.bool !(x.toList == y.toList)) := rfl
 have h2 : (x.toList == y.toList) = decide (x = y) := by
  rw [Go.Lib.toList_data, Go.Lib.toList_data, Bool.eq_iff_iff]
  simp only [beq_iff_eq, decide_eq_true_eq]
  exact ⟨toList_inj, fun e => by rw [e]⟩
 rw [h1, h2]; rfl
theorem ME {w : World} {g : Option Addr} {l c : Nat} : (Instr.build 92 #[(0, .slice g l c)]).run prog w = .ok (.agg [.slice g l c, .slice none 0 0, .int .i64 0, .int .i64 0].toArray) w := by
 simp [Instr.build, zeroValue92, runUnderlying92, Value.cells, Instr.fill, sizeOf22]
theorem Hk {O : Nat → Prop} {w : World} {b c : Nat} {x : List Value} {e : Int} (hb : O b) (hc : O c) : Fr O w O (E2 w b c x e) := (Fr.setRow _ hb).trans (Fr.setRow _ hc)
theorem Kf {w : World} {b c : Nat} {x y : List Value} {z : Value} {e : Int} (hb : Blk w b y 36) (hc : Blk w c [z] 37) (hbc : b ≠ c) : Blk (E2 w b c x e) b x 36 ∧ Blk (E2 w b c x e) c [.int .i64 e] 37 :=
 ⟨(setRow_other _ c b _ hbc).trans (hb.setRow _), Blk.setRow ((setRow_other _ b c _ (fun e => hbc e.symm)).trans hc) _⟩
mutual
theorem JM : ∀ (t : T) (f : Ty) (s s' : RS), CK t f s = some s' → s'.tab = s.tab
 | .int n, f, s, s', h => by
  cases f <;> simp only [CK] at h <;> try cases h
  split at h
  · exact (BJ h).2.1
  · cases h
 | .bool n, f, s, s', h => by
  cases f <;> simp only [CK] at h <;> try cases h
  exact (BJ h).2.1
 | .str x, f, s, s', h => by
  cases f <;> simp only [CK] at h <;> try cases h
  split at h
  · split at h
    · simp only [Option.map_eq_some_iff] at h
      obtain ⟨u, hu, rfl⟩ := h
      exact (BJ hu).2.1
    · cases h
  · cases h
 | .nil, f, s, s', h => by
  cases f <;> simp only [CK] at h <;> try cases h
  exact (BJ h).2.1
 | .ptr t, f, s, s', h => by
  cases f <;> simp only [CK] at h <;> try cases h
  simp only [Option.bind_eq_some_iff] at h
  obtain ⟨u, hu, h⟩ := h
  exact (JM t _ u s' h).trans (BJ hu).2.1
 | .list l, f, s, s', h => by
  cases f <;> simp only [CK] at h <;> try cases h
  simp only [Option.bind_eq_some_iff] at h
  obtain ⟨u, hu, h⟩ := h
  split at h
  · exact (LE l _ u s' h).trans (BJ hu).2.1
  · cases h
 | .agg sn l, f, s, s', h => by
  cases f <;> simp only [CK] at h <;> try cases h
  split at h
  · split at h
    · split at h
      · cases h
      · simp only [Option.map_eq_some_iff] at h
        obtain ⟨u, hu, rfl⟩ := h
        have := Kk l _ { s with nest := s.nest + 1 } u hu
        exact this
    · exact Kk l _ _ s' h
  · cases h
theorem LE : ∀ (l : List T) (e : Ty) (s s' : RS), DD l e s = some s' → s'.tab = s.tab
 | [], e, s, s', h => by simp only [DD, Option.some.injEq] at h; rw [h]
 | t :: l, e, s, s', h => by
  simp only [DD, Option.bind_eq_some_iff] at h
  obtain ⟨u, hu, h⟩ := h
  exact (LE l e u s' h).trans (JM t e s u hu)
theorem Kk : ∀ (l : List T) (fs : List Ty) (s s' : RS), BT l fs s = some s' → s'.tab = s.tab
 | [], [], s, s', h => by simp only [BT, Option.some.injEq] at h; rw [h]
 | [], f :: fs, s, s', h => by simp only [BT] at h; cases h
 | t :: l, [], s, s', h => by simp only [BT] at h; cases h
 | t :: l, f :: fs, s, s', h => by
  simp only [BT, Option.bind_eq_some_iff] at h
  obtain ⟨u, hu, h⟩ := h
  exact (Kk l fs u s' h).trans (JM t f s u hu)
end
theorem LW {tab tab' : List ByteArray} {r r' : List UInt8} (h : num tab.length ++ Bi tab ++ r = num tab'.length ++ Bi tab' ++ r') : tab = tab' ∧ r = r' := by
 rw [List.append_assoc, List.append_assoc] at h
 obtain ⟨h1, h2⟩ := Lh _ _ _ _ h
 obtain ⟨l2, h3, h4⟩ := Il _ _ _ _ h2 (by omega)
 have : l2 = [] := by
  have := congrArg List.length h3
  simp at this
  exact List.eq_nil_of_length_eq_zero (by omega)
 subst this
 exact ⟨by simpa using h3.symm, by simpa [Bi] using h4⟩
theorem RD {w : World} {v : Value} {bs : List UInt8} (h : Bts w v bs) :
 Calls prog 15 [v].toArray w (Dq (Oe bs w) (fun _ _ => False)) := by
 have hml : bs.length ≤ 9223372036854775807 := by have := h.1; simpa [maxLen] using this
 obtain ⟨g, cap, rfl, _⟩ := h.val
 refine Eu 68 func15 V V V ?_
 refine Af (Aa (AO (Iy _) V ?_))
 have a1 : Own (fun _ => False) (w.alloc (.cells zsheet.toArray 36)) w.heap.size zsheet 36 := ⟨AN, fun h => h⟩
 have f1 : Fr (fun _ => False) w (fun _ => False) (w.alloc (.cells zsheet.toArray 36)) := Fr.alloc _ _ _
 have s1 : (w.alloc (.cells zsheet.toArray 36)).heap.size = w.heap.size + 1 := by simp
 show WL _ _ _ _ _ _ _ (w.alloc (.cells zsheet.toArray 36))
 generalize w.alloc (.cells zsheet.toArray 36) = w1 at a1 f1 s1 ⊢
 refine AO (zeroValue37 _) V ?_
 have a2 : Own (fun _ => False) (w1.alloc (.cells [.int .i64 0].toArray 37)) w1.heap.size [.int .i64 0] 37 := ⟨AN, fun h => h⟩
 have f2 : Fr (fun _ => False) w1 (fun _ => False) (w1.alloc (.cells [.int .i64 0].toArray 37)) := Fr.alloc _ _ _
 have s2 : (w1.alloc (.cells [.int .i64 0].toArray 37)).heap.size = w1.heap.size + 1 := by simp
 show WL _ _ _ _ _ _ _ (w1.alloc (.cells [.int .i64 0].toArray 37))
 generalize w1.alloc (.cells [.int .i64 0].toArray 37) = w2 at a2 f2 s2 ⊢
 have b1 := f2.keep a1
 have f02 := f1.trans f2
 have hbc : w.heap.size ≠ w1.heap.size := by omega
 have hcn : w.heap.size ≤ w1.heap.size := by omega
 generalize hB : w.heap.size = B at *
 generalize hC : w1.heap.size = C at *
 have h2 : Bts w2 (.slice g bs.length cap) bs := h.keep0 f02
 refine Ar [(0, .slice g bs.length cap), (2, ptr B), (3, ptr C)] ⟨V, V, V, trivial⟩ ?_
 -- an early return
 have early : ∀ {a : Act} {m : Env} {e : Int} {w3 : World}, ((∀ t, ¬ DZ bs t) ∧ Fa bs = e) → Fr (fun _ => False) w2 (fun _ => False) w3 → Loc 68 [] m a → m.get 2 = some (ptr B) → m.get 3 = some (ptr C) →
  bodyPostD prog Tryz.f15 (Dq (Oe bs w) (fun _ _ => False)) .ret a (E2 w3 B C zsheet e) := by
  intro a m e w3 he f3 ha h2 h3
  have k1 := f3.keep b1
  have k2 := f3.keep a2
  obtain ⟨q1, q2⟩ := Kf (x := zsheet) (e := e) k1.blk k2.blk hbc
  refine NA V ha h2 h3 q1 V q2 ⟨zsheet, e, rfl, ?_, .inr ⟨he.1, he.2.symm, rfl⟩⟩
  have : Fr (fun b => B ≤ b) w2 (fun b => B ≤ b) (E2 w3 B C zsheet e) := (f3.drop (fun _ h => h.elim)).trans (Hk (by omega) (by omega))
  have := Gs (v := .slice none 0 0) f02 this (fun b hb => by omega) (fun b hb => (E6 b hb).elim)
  rwa [G8] at this
 -- what is stored at an early return
 have stores : ∀ {w3 : World} {e : Int}, Fr (fun _ => False) w2 (fun _ => False) w3 → (loadVar 36 ⟨B, 0, none⟩).run prog w3 = .ok (.agg zsheet.toArray) w3 ∧ (storeVar 36 ⟨B, 0, none⟩ (.agg zsheet.toArray)).run prog w3 = .ok () (w3.setRow B zsheet.toArray) ∧
  (storeVar 37 ⟨C, 0, none⟩ (.int .i64 e)).run prog (w3.setRow B zsheet.toArray) = .ok () (E2 w3 B C zsheet e) := by
  intro w3 e f3
  have k1 := (f3.keep b1).blk
  have k2 := (f3.keep a2).blk
  exact ⟨Bg EE V k1.all, EW k1 V V GI, KZ ((setRow_other _ _ _ _ (fun e => hbc e.symm)).trans k2)⟩
 refine B9 (ι := World) (fun _ => [(0, .slice g bs.length cap), (2, ptr B), (3, ptr C)]) (fun i w' => i = w' ∧ Fr (fun _ => False) w2 (fun _ => False) w' ∧ ¬ 16777216 < bs.length ∧ ¬ (bs.length < 9 ∨ bs.take 4 ≠ magicB) ∧ ¬ BP (bs.take (bs.length - 4)) ≠ bs) ?_ ?_
 · refine Af (Aa (Ac V V (AE V (Ay underlying22) V (Al V V (v := .int .i64 ((bs.length : Int) - 4)) ?_ V (Ah V V (Ae ?_))))))
   · show Result.ok (Value.int .i64 (IntKind.i64.wrap ((bs.length : Int) - 4))) _ = _
     rw [B4 (by unfold Bu; omega)]
   refine A1 (Af (Aa (Ac V V (AE V (Ay underlying22) V (Al V V (Cu (c := decide (16777216 < bs.length)) (decide_eq_decide.2 (by omega))) V (Ah V V (Ae ?_)))))))
   refine AK V (fun ht => ?_) (fun hf => ?_)
   · obtain ⟨l1, l2, l3⟩ := stores (e := 2) (Fr.refl _ w2)
     exact Af (Aa (Ai V l1 V (An V V l2 (An V V l3 (Ae (AA fun a ha => Aw (Ao (early (Lm (of_decide_eq_true ht)) (Fr.refl _ w2) ha V V))))))))
   have hlong : ¬ 16777216 < bs.length := of_decide_eq_false hf
   have final : ∀ (hf2 : ¬ (bs.length < 9 ∨ bs.take 4 ≠ magicB)), True := fun _ => trivial
   clear final
   by_cases h9 : bs.length < 9
   · refine Af (Aa (Ac V V (AE V (Ay underlying22) V (Al V V (Bh (c := true) (decide_eq_true (by omega)).symm) V (Ac V V ?_)))))
     refine B6 (j := 3) V V V V V (B6 (j := 3) V V V V V (B6 (j := 3) V V V V V (B6 (j := 3) V V V V V (AI V V V (Ah V V (Ae (Ax V ?_)))))))
     obtain ⟨l1, l2, l3⟩ := stores (e := 5) (Fr.refl _ w2)
     exact Af (Aa (Ai V l1 V (An V V l2 (An V V l3 (Ae (AA fun a ha => Aw (Ao (early (Dj hlong (.inl h9)) (Fr.refl _ w2) ha V V))))))))
   obtain ⟨v4, hsl4, hb4, _⟩ := Do h2 (lo := none) (hi := some (.int .i64 4)) (l := 0) (k := 4) (.inl ⟨rfl, rfl⟩) (.inr rfl) (Nat.zero_le _) (by omega)
   rw [List.drop_zero] at hb4
   have hms : decide ((⟨(bs.take 4).toArray⟩ : ByteArray) = ⟨#[67, 72, 83, 76]⟩) = decide (bs.take 4 = magicB) := by
    apply decide_eq_decide.2
    constructor
    · intro e
      have e1 : (bs.take 4).toArray = #[67, 72, 83, 76] := congrArg ByteArray.data e
      have e2 := congrArg Array.toList e1
      simpa [magicB] using e2
    · intro e; rw [e]; rfl
   refine Af (Aa (Ac V V (AE V (Ay underlying22) V (Al V V (Bh (c := false) (decide_eq_false (by omega)).symm) V (Ac V V ?_)))))
   refine Ag (j := 3) V V V (Ac V V (Ag (j := 3) V V V (DV (vl := none) (vh := some (.int .i64 4)) V V V (hsl4 _) V (Ag (j := 3) V V V (AJ V (Cx hb4) V ?_)))))
   refine Ag (j := 3) V V V (Dh V V Du V (AI V V V (Ah V V (Ae ?_))))
   rw [hms]
   obtain ⟨fb, hfb⟩ : ∃ fb, fb = !decide (bs.take 4 = magicB) := ⟨_, rfl⟩
   rw [← hfb]
   refine AK V (fun ht => ?_) (fun hf => ?_)
   · obtain ⟨l1, l2, l3⟩ := stores (e := 5) (Fr.refl _ w2)
     have hne : bs.take 4 ≠ magicB := by rw [ht] at hfb; intro e; simp [e] at hfb
     exact Af (Aa (Ai V l1 V (An V V l2 (An V V l3 (Ae (AA fun a ha => Aw (Ao (early (Dj hlong (.inr hne)) (Fr.refl _ w2) ha V V))))))))
   have hmag : bs.take 4 = magicB := by rw [hf] at hfb; simpa using hfb.symm
   have hform : ¬ (bs.length < 9 ∨ bs.take 4 ≠ magicB) := fun h => h.elim h9 (fun h => h hmag)
   have hc4 : ((bs.length : Int) - 4) = ((bs.length - 4 : Nat) : Int) := by omega
   obtain ⟨v6, hsl6, hb6, _⟩ := Do h2 (lo := none) (hi := some (.int .i64 ((bs.length : Int) - 4))) (l := 0) (k := bs.length - 4) (.inl ⟨rfl, rfl⟩) (.inr (by rw [hc4])) (Nat.zero_le _) (by omega)
   rw [List.drop_zero] at hb6
   have hl6 : (bs.take (bs.length - 4)).length ≤ 2 ^ 45 := by simp; omega
   refine Af (Aa (Ac V V (Ac V V (DV (vl := none) (vh := some (.int .i64 ((bs.length : Int) - 4))) V V V (hsl6 _) V (Aj call29 V V (RO hb6 hl6) ?_ Be)))))
   rintro v7 w4 ⟨r7, f7⟩
   refine Aj call28 V V (RP r7 hl6) ?_ Be
   rintro v8 w5 ⟨r8, f8⟩
   have f25 : Fr (fun _ => False) w2 (fun _ => False) w5 := (f7.trans f8).none
   have h5 : Bts w5 (.slice g bs.length cap) bs := h2.keep0 f25
   refine Ac V V (Aj call27 V V (Su (BH r8) h5) ?_ Be)
   rintro _ w6 ⟨rfl, f6⟩
   have f26 := f25.trans f6
   refine Bt V V (Ah V V (Ae ?_))
   obtain ⟨sb, hsb⟩ : ∃ sb, sb = !decide (BP (bs.take (bs.length - 4)) = bs) := ⟨_, rfl⟩
   rw [← hsb]
   refine AK V (fun ht => ?_) (fun hf => A_ fun a ha => Az (Ad ⟨w6, ha.weak ⟨V, V, V, trivial⟩, rfl, f26, hlong, hform, ?_⟩))
   · obtain ⟨l1, l2, l3⟩ := stores (e := 440) f26
     have hne : BP (bs.take (bs.length - 4)) ≠ bs := by rw [ht] at hsb; intro e; simp [e] at hsb
     exact Af (Aa (Ai V l1 V (An V V l2 (An V V l3 (Ae (AA fun a ha => Aw (Ao (early (Jz hlong hform hne) f26 ha V V))))))))
   · intro hne; apply hne; rw [hf] at hsb; simpa using hsb.symm
 · rintro w3 _ ⟨rfl, f3, hlong, hform, hsum⟩
   have hns : ¬ bs.length < 9 := fun h => hform (.inl h)
   have k1 := f3.keep b1
   have k2 := f3.keep a2
   have h3 : Bts w3 (.slice g bs.length cap) bs := h2.keep0 f3
   have hc4 : ((bs.length : Int) - 4) = ((bs.length - 4 : Nat) : Int) := by omega
   refine Af (Aa (AH V V V (Es V (Ae ?_))))
   show W _ _ _ _ [MT B C] _ _
   obtain ⟨v4, hsl4, hb4, _⟩ := Do h3 (lo := some (.int .i64 4)) (hi := some (.int .i64 ((bs.length : Int) - 4))) (l := 4) (k := bs.length - 4) (.inr rfl) (.inr (by rw [hc4])) (by omega) (by omega)
   obtain ⟨g4, cap4, hv4, _⟩ := hb4.val
   refine Af (Aa (Ac V V (Ac V V (AE V (Ay underlying22) V (Al V V (v := .int .i64 ((bs.length : Int) - 4)) ?_ V (DV (vl := some (.int .i64 4)) (vh := some (.int .i64 ((bs.length : Int) - 4))) V V V (hsl4 _) V ?_))))))
   · show Result.ok (Value.int .i64 (IntKind.i64.wrap ((bs.length : Int) - 4))) _ = _
     rw [B4 (by unfold Bu; omega)]
   have hbody : (bs.take (bs.length - 4)).drop 4 = body bs := rfl
   rw [hbody] at hb4 hv4
   subst hv4
   refine Cl V ME V (Cd V V ?_)
   have a4 : Blk (w3.alloc (.cells [.slice g4 (body bs).length cap4, .slice none 0 0, .int .i64 0, .int .i64 0].toArray 92)) w3.heap.size [.slice g4 (body bs).length cap4, .slice none 0 0, .int .i64 0, .int .i64 0] 92 := AN
   have f4 : Fr (fun _ => False) w3 (fun _ => False) (w3.alloc (.cells [.slice g4 (body bs).length cap4, .slice none 0 0, .int .i64 0, .int .i64 0].toArray 92)) := Fr.alloc _ _ _
   have s4 : (w3.alloc (.cells [.slice g4 (body bs).length cap4, .slice none 0 0, .int .i64 0, .int .i64 0].toArray 92)).heap.size = w3.heap.size + 1 := by simp
   show WL _ _ _ _ _ _ _ (w3.alloc (.cells [.slice g4 (body bs).length cap4, .slice none 0 0, .int .i64 0, .int .i64 0].toArray 92))
   generalize w3.alloc (.cells [.slice g4 (body bs).length cap4, .slice none 0 0, .int .i64 0, .int .i64 0].toArray 92) = w4 at a4 f4 s4 ⊢
   have hb4' := hb4.keep0 f4
   have hown : ∀ k, Bk (.slice g4 (body bs).length cap4) k → k < w3.heap.size := by
    intro k hk
    rcases hb4.2 with ⟨e, _⟩ | ⟨b, o, c, e, hb, _⟩
    · rw [e] at hk; exact (E6 k hk).elim
    · rw [e] at hk; have : b = k := by simpa [Bk, Value.ownBlock] using hk
      omega
   have hB3 : B < w3.heap.size := k1.blk.lt
   have hC3 : C < w3.heap.size := k2.blk.lt
   generalize hp : w3.heap.size = p at *
   have hbl : (body bs).length ≤ 2 ^ 25 := by unfold body; simp; omega
   -- the two results, in whatever follows
   have res : ∀ {w' : World}, Fr (only p) w4 (only p) w' → Blk w' B zsheet 36 ∧ Blk w' C [.int .i64 0] 37 := fun f =>
    ⟨(f.blk B (by omega) (fun e => by have : B = p := e; omega)).trans ((f4.blk B (by omega) (fun h => h)).trans k1.blk), (f.blk C (by omega) (fun e => by have : C = p := e; omega)).trans ((f4.blk C (by omega) (fun h => h)).trans k2.blk)⟩
   -- the whole's frame
   have whole : ∀ {w' : World}, Fr (fun b => B ≤ b) w4 (fun b => B ≤ b) w' → Fr (fun _ => False) w (fun _ => False) w' := by
    intro w' f
    have hq : Fr (fun _ => False) w (fun _ => False) w4 := (f02.trans f3).trans f4
    have := Gs (v := .slice none 0 0) hq f (fun b hb => by omega) (fun b hb => (E6 b hb).elim)
    rwa [G8] at this
   have bad : ∀ {a : Act} {m : Env} {w' : World} {x : List Value}, (∀ t, ¬ Kc (body bs) t) → Fr (fun b => B ≤ b) w4 (fun b => B ≤ b) w' → Blk w' B x 36 → x.length = 10 → Blk w' C [.int .i64 0] 37 → Loc 68 [MT B C] m a → m.get 2 = some (ptr B) → m.get 3 = some (ptr C) →
    bodyPostD prog Tryz.f15 (Dq (Oe bs w) (fun _ _ => False)) (.panic CL) a w' := by
    intro a m w' x hno f hx hxl hy ha h2 h3
    refine Nm V ha h2 h3 hx hxl hy hbc ⟨zsheet, 5, rfl, whole (f.trans (Hk (Nat.le_refl B) (by omega))), .inr ⟨(Ih hlong hform hsum hno).1, (Ih hlong hform hsum hno).2.symm, rfl⟩⟩
   refine Ah V V (Ar [(2, ptr B), (3, ptr C), (5, ptr p)] ⟨V, V, V, trivial⟩ ?_)
   refine Af (Aa (Ac V V (Aj call31 V V (Sw a4 hb4' (fun k hk => by have := hown k hk; omega) hbl) ?_ ?_)))
   rotate_left
   · rintro ch w5 ⟨rfl, hno, f5⟩ a ha
     obtain ⟨q1, q2⟩ := res f5
     refine Am (bad ?_ (f5.drop (fun b hb => by have : b = p := hb; omega)) q1 V q2 ha V V)
     rintro t ⟨tab, r, s', e, hnd, _⟩
     exact hno tab r hnd e
   rintro _ w5 ⟨rfl, tab, r, hbd, hst5, f5⟩
   obtain ⟨q1, q2⟩ := res f5
   refine Ae ?_
   have uniq : ∀ t, Kc (body bs) t → ∃ s', CK t (.st .sheet) ⟨r, tab, 0, 0⟩ = some s' ∧ s'.b = [] ∧ s'.used = tab.length := by
    rintro t ⟨tab', r', s', e, hnd, hc, h1, h2⟩
    obtain ⟨rfl, rfl⟩ := LW (hbd.symm.trans e)
    exact ⟨s', hc, h1, h2⟩
   refine Af (Aa (Ac V V (Aj call32 V V (Pl 0 (by decide) _ _ hst5 V) ?_ ?_)))
   rotate_left
   · rintro ch w6 ⟨rfl, hbad, s', _, f6, _⟩ a ha
     obtain ⟨r1, r2⟩ := res (f5.trans f6)
     refine Am (bad ?_ ((f5.trans f6).drop (fun b hb => by have : b = p := hb; omega)) r1 V r2 ha V V)
     intro t ht
     obtain ⟨s', hc, _⟩ := uniq t ht
     rw [hbad t] at hc; cases hc
   rintro _ w6 ⟨t, s', cs, hc, rfl, hrep, hst6, f6, hn6⟩
   obtain ⟨r1, r2⟩ := res (f5.trans f6)
   obtain ⟨hcl, hc1⟩ := Rep.one _ _ _ hrep
   have hcl' : cs.length = 10 := hcl
   have F6 : Fr (fun b => B ≤ b) w4 (fun b => B ≤ b) w6 := (f5.trans f6).drop (fun b hb => by have : b = p := hb; omega)
   have hsz5 := f5.size
   have hsz6 := f6.size
   refine An V V (EW r1 V hcl' hc1) (Ar [(2, ptr B), (3, ptr C), (5, ptr p)] ⟨V, V, V, trivial⟩ ?_)
   have t1 : Blk (w6.setRow B cs.toArray) B cs 36 := r1.setRow _
   have t2 : Blk (w6.setRow B cs.toArray) C [.int .i64 0] 37 := (setRow_other _ _ _ _ (fun e => hbc e.symm)).trans r2
   have F7 : Fr (fun b => B ≤ b) w4 (fun b => B ≤ b) (w6.setRow B cs.toArray) := F6.trans (Fr.setRow _ (Nat.le_refl B))
   have oth : ∀ b, b ≠ B → (w6.setRow B cs.toArray).heap[b]? = w6.heap[b]? := fun b hb => setRow_other _ _ _ _ hb
   have hsz7 : (w6.setRow B cs.toArray).heap.size = w6.heap.size := by simp
   obtain ⟨vb, vt, e0, e1, e2, e3, m6⟩ := hst6.cells
   obtain ⟨gb, cb, rfl, _⟩ := m6.bts.val
   obtain ⟨gt, ct, rfl, _⟩ := Dr m6.row
   have hsb6 := hst6.sb
   have hst6' := hst6.st
   have hsu6 := hst6.su
   have htab : s'.tab = tab := JM t _ _ s' hc
   generalize w6.setRow B cs.toArray = w7 at t1 t2 F7 oth hsz7 ⊢
   have pB : p ≠ B := by omega
   have LD : ∀ (t : TypeId) (o : Nat) (v : Value), By prog t false 1 → w6.cell? ⟨p, o, none⟩ = some v → ∀ w', (∃ k, w' = w7.drewN k) → (loadVar t ⟨p, o, none⟩).run prog w' = .ok v w' := by
    rintro t o v ht hcell w' ⟨k, rfl⟩
    refine A4 ht ?_
    rw [World.cell?_of_block (w := w6) (show (w7.drewN k).heap[p]? = w6.heap[p]? from oth p pB)]
    exact hcell
   have key : (0 < s'.b.length ∨ s'.used < s'.tab.length) → ∀ t, ¬ Kc (body bs) t := by
    intro hor t' ht'
    obtain ⟨s'', hc', h1, h2⟩ := uniq t' ht'
    obtain ⟨_, rfl⟩ := G9 _ _ _ _ _ _ hc hc'
    rcases hor with h | h
    · rw [h1] at h; simp at h
    · rw [htab] at h; omega
   obtain ⟨x1, hx1⟩ : ∃ x, x = decide (0 < s'.b.length) := ⟨_, rfl⟩
   obtain ⟨x2, hx2⟩ : ∃ x, x = decide (s'.used < s'.tab.length) := ⟨_, rfl⟩
   refine B9 (ι := Nat) (fun _ => [(2, ptr B), (3, ptr C)]) (fun k w' => w7.drewN k = w' ∧ ¬ (0 < s'.b.length ∨ s'.used < s'.tab.length)) ?_ ?_
   · refine B9 (ι := Nat) (fun _ => [(2, ptr B), (3, ptr C), (64, .bool (x1 || x2))]) (fun k w' => w7.drewN k = w') (C_ (fun w' => ∃ k, w' = w7.drewN k) CE (by kernel_rfl) ⟨1, rfl⟩ ?_) ?_
     rotate_left
     · rintro k _ rfl
       obtain ⟨x, hx⟩ : ∃ x, x = (x1 || x2) := ⟨_, rfl⟩
       rw [← hx]
       refine AK V (fun ht => Aa (D7 V V (fun a ha => ?_) V V)) (fun hf => A_ fun a ha => ?_)
       · refine Am (bad (key ?_) (F7.trans (Fr.drewn k)) t1 hcl' t2 ha V V)
         rw [ht] at hx
         rcases (Bool.or_eq_true _ _ ▸ hx.symm : _ ∨ _) with h | h
         · rw [h] at hx1; exact .inl (of_decide_eq_true hx1.symm)
         · rw [h] at hx2; exact .inr (of_decide_eq_true hx2.symm)
       · refine Ad ⟨k, ha.weak ⟨V, V, trivial⟩, rfl, ?_⟩
         rw [hf] at hx
         have := (Bool.or_eq_false_iff).1 hx.symm
         rw [this.1] at hx1; rw [this.2] at hx2
         exact fun h => h.elim (of_decide_eq_false hx1.symm) (of_decide_eq_false hx2.symm)
     refine A6 V V (Cg V V (A5 V (fun _ => GP _ _ _) V (AM V (LD 22 0 _ CG e0) V (GK V (fun _ => Ay underlying22) V ?_))))
     refine CW V V (v := .bool x1) (fun _ => Cu (hx1.trans (decide_eq_decide.2 (by omega)))) V (A6 V V ?_)
     cases x1 with
     | true =>
      iterate 10 refine CR (j := 6) V V V V V ?_
      exact BM V V V (Ll fun a ha w' hw' => Ad (hw'.elim fun k hk => ⟨k, ha.weak ⟨V, V, V, trivial⟩, hk.symm⟩))
     | false =>
      refine Ak (j := 6) V V V (A6 V V (Ak (j := 6) V V V (Cg V V (Ak (j := 6) V V V (A5 V (fun _ => Lx _ _ _) V (Ak (j := 6) V V V (AM V (LD 3 2 _ Hm e2) V ?_)))))))
      refine Ak (j := 6) V V V (A6 V V (Ak (j := 6) V V V (Cg V V (Ak (j := 6) V V V (A5 V (fun _ => JW _ _ _) V (Ak (j := 6) V V V (AM V (LD 44 1 _ FG e1) V ?_)))))))
      refine Ak (j := 6) V V V (GK V (fun _ => Ay underlying44) V (Ak (j := 6) V V V (CW V V (v := .bool x2) (fun _ => Bh (hx2.trans (decide_eq_decide.2 (by omega)))) V ?_)))
      exact BM V V V (Ll fun a ha w' hw' => Ad (hw'.elim fun k hk => ⟨k, ha.weak ⟨rfl, rfl, by simp [Env.get], trivial⟩, hk.symm⟩))
   · rintro k _ ⟨rfl, hno⟩
     have u1 : Blk (w7.drewN k) B cs 36 := t1
     have u2 : Blk (w7.drewN k) C [.int .i64 0] 37 := t2
     have u2' : Blk ((w7.drewN k).setRow B cs.toArray) C [.int .i64 0] 37 := (setRow_other _ _ _ _ (fun e => hbc e.symm)).trans u2
     obtain ⟨z1, z2⟩ := Kf (x := cs) (e := 0) u1 u2 hbc
     refine Af (Aa (Ai V (Bg EE hcl' u1.all) V (An V V (EW u1 hcl' hcl' hc1) (An V V (KZ u2') (Ae (AA fun a ha => Nk V ha V V z1 hcl' z2 ⟨cs, 0, rfl, whole (F7.trans ((Fr.drewn k).trans (Hk (Nat.le_refl B) (by omega)))), .inl ⟨t, ?_, rfl, ?_⟩⟩))))))
     · refine ⟨by omega, by omega, ?_, ?_, tab, r, s', hbd, hst5.nodup, hc, ?_, ?_⟩
       · by_cases hm : bs.take 4 = magicB
         · exact hm
         · exact absurd (.inr hm) hform
       · by_cases hm : BP (bs.take (bs.length - 4)) = bs
         · exact hm
         · exact absurd hm hsum
       · exact List.eq_nil_of_length_eq_zero (by omega)
       · rw [htab] at hno hsu6; omega
     · refine Rep.agree (fun b hb hl => ⟨by omega, by show b < (E2 _ _ _ _ _).heap.size; simp [E2]; omega, ?_⟩) _ _ _ hrep
       have hbB : b ≠ B := by omega
       have hbC : b ≠ C := by omega
       exact (setRow_other _ _ _ _ hbC).trans ((setRow_other _ _ _ _ hbB).trans (oth b hbB))
end Go.Sx
namespace Go.Sx
structure Cor (tab : List ByteArray) (rs : RS) (ws : WS) (long : Nat) : Prop where
 wt : ws.tab = tab.take rs.used
 rt : rs.tab = tab
 used : rs.used ≤ tab.length
 nest : ws.nest = rs.nest
 long : ws.b.length + rs.b.length ≤ long
theorem Cor.eat {tab : List ByteArray} {rs rs' : RS} {ws : WS} {long n : Nat} (h : Cor tab rs ws long) (he : rs.eat n = some rs') : Cor tab rs' (ws.num n) long ∧ (ws.num n).b ++ rs'.b = ws.b ++ rs.b := by
 obtain ⟨h1, h2⟩ := RS.eat_iff.1 he
 have hb : (ws.num n).b ++ rs'.b = ws.b ++ rs.b := by
  rw [h1]; simp only [WS.num, List.append_assoc]
 have hl := congrArg List.length hb
 simp only [List.length_append] at hl
 refine ⟨⟨?_, ?_, ?_, ?_, by have := h.long; omega⟩, hb⟩
 · rw [h2]; exact h.wt
 · rw [h2]; exact h.rt
 · rw [h2]; exact h.used
 · rw [h2]; exact h.nest
theorem Nt {tab : List ByteArray} {x : ByteArray} {k u : Nat} (h : tab.findIdx? (fun y => decide (y = x)) = some k) (hn : tab.Nodup) : (tab.take u).findIdx? (fun y => decide (y = x)) = if k < u then some k else none := by
 obtain ⟨h1, h2⟩ := Ex h
 split
 · rename_i hk
   refine Ho (hn.sublist (List.take_sublist _ _)) ?_
   rw [List.getElem?_take, if_pos hk]; exact h2
 · rename_i hk
   refine L5 ?_
   intro hm
   obtain ⟨i, hi⟩ := List.getElem?_of_mem hm
   rw [List.getElem?_take] at hi
   split at hi
   · rename_i hiu
     obtain ⟨g1, g2⟩ := List.getElem?_eq_some_iff.1 hi
     obtain ⟨g3, g4⟩ := List.getElem?_eq_some_iff.1 h2
     have := (List.getElem_inj hn).1 (g2.trans g4.symm)
     omega
   · cases hi
mutual
theorem G2 {tab : List ByteArray} {long : Nat} (hn : tab.Nodup) : ∀ (t : T) (f : Ty) (rs rs' : RS) (ws : WS), Cor tab rs ws long → CK t f rs = some rs' → ∃ ws', enc 1000 long t ws = some ws' ∧ Cor tab rs' ws' long ∧ ws'.b ++ rs'.b = ws.b ++ rs.b
 | .int n, f, rs, rs', ws, hc, h => by
  cases f <;> simp only [CK] at h <;> try cases h
  split at h
  · have := hc.eat h
    exact ⟨_, by simp only [enc], this.1, this.2⟩
  · cases h
 | .bool b, f, rs, rs', ws, hc, h => by
  cases f <;> simp only [CK] at h <;> try cases h
  have := hc.eat h
  exact ⟨_, by simp only [enc], this.1, this.2⟩
 | .nil, f, rs, rs', ws, hc, h => by
  cases f <;> simp only [CK] at h <;> try cases h
  have := hc.eat h
  exact ⟨_, by simp only [enc], this.1, this.2⟩
 | .str x, f, rs, rs', ws, hc, h => by
  cases f <;> simp only [CK] at h <;> try cases h
  cases hx : rs.tab.findIdx? (fun y => decide (y = x)) with
  | none => rw [hx] at h; cases h
  | some k =>
   rw [hx] at h
   simp only at h
   split at h
   · rename_i hk
     simp only [Option.map_eq_some_iff] at h
     obtain ⟨u, hu, rfl⟩ := h
     have hcu := hc.eat hu
     rw [hc.rt] at hx
     have hf := Nt (u := rs.used) hx hn
     have hkl := (Ex hx).1
     by_cases hlt : k < rs.used
     · rw [if_pos hlt] at hf
       have hs : ws.str x = ws.num k := by unfold WS.str; rw [hc.wt, hf]
       refine ⟨ws.num k, by simp only [enc, hs], ⟨?_, hcu.1.rt, ?_, hcu.1.nest, hcu.1.long⟩, hcu.2⟩
       · show ws.tab = tab.take (max rs.used (k + 1))
         rw [Nat.max_eq_left (by omega)]; exact hc.wt
       · show max rs.used (k + 1) ≤ tab.length
         have := hc.used; omega
     · rw [if_neg hlt] at hf
       have hku : k = rs.used := by omega
       have hlen : ws.tab.length = k := by rw [hc.wt, List.length_take, hku]; have := hc.used; omega
       have hs : ws.str x = { ws with tab := ws.tab ++ [x] }.num k := by unfold WS.str; rw [hc.wt, hf, ← hc.wt, hlen]
       refine ⟨{ ws with tab := ws.tab ++ [x] }.num k, by simp only [enc, hs], ⟨?_, hcu.1.rt, ?_, hcu.1.nest, hcu.1.long⟩, hcu.2⟩
       · show ws.tab ++ [x] = tab.take (max rs.used (k + 1))
         rw [Nat.max_eq_right (by omega), List.take_add_one, (Ex hx).2, hc.wt, hku]; rfl
       · show max rs.used (k + 1) ≤ tab.length
         omega
   · cases h
 | .ptr t, f, rs, rs', ws, hc, h => by
  cases f <;> simp only [CK] at h <;> try cases h
  simp only [Option.bind_eq_some_iff] at h
  obtain ⟨u, hu, h⟩ := h
  have hcu := hc.eat hu
  obtain ⟨ws', h1, h2, h3⟩ := G2 hn t _ u rs' _ hcu.1 h
  exact ⟨ws', by simp only [enc]; exact h1, h2, h3.trans hcu.2⟩
 | .list l, f, rs, rs', ws, hc, h => by
  cases f <;> simp only [CK] at h <;> try cases h
  simp only [Option.bind_eq_some_iff] at h
  obtain ⟨u, hu, h⟩ := h
  have hcu := hc.eat hu
  split at h
  · obtain ⟨ws', h1, h2, h3⟩ := Js hn l _ u rs' _ hcu.1 h
    exact ⟨ws', by simp only [enc]; exact h1, h2, h3.trans hcu.2⟩
  · cases h
 | .agg sn l, f, rs, rs', ws, hc, h => by
  cases f <;> simp only [CK] at h <;> try cases h
  split at h
  · rename_i e
    subst e
    simp only [enc]
    generalize hd : SN.deep _ = d at h
    cases d with
    | false => exact He hn l _ rs rs' ws hc h
    | true =>
     simp only at h ⊢
     split at h
     · cases h
     · rename_i hno
       simp only [Option.map_eq_some_iff] at h
       obtain ⟨u, hu, rfl⟩ := h
       have hc' : Cor tab { rs with nest := rs.nest + 1 } { ws with nest := ws.nest + 1 } long := ⟨hc.wt, hc.rt, hc.used, by show ws.nest + 1 = rs.nest + 1; rw [hc.nest], hc.long⟩
       obtain ⟨ws', h1, h2, h3⟩ := He hn l _ _ u _ hc' hu
       have hl := hc.long
       have hne := hc.nest
       rw [if_neg (by omega), h1]
       exact ⟨_, rfl, ⟨h2.wt, h2.rt, h2.used, hne, h2.long⟩, h3⟩
  · cases h
theorem Js {tab : List ByteArray} {long : Nat} (hn : tab.Nodup) : ∀ (l : List T) (e : Ty) (rs rs' : RS) (ws : WS), Cor tab rs ws long → DD l e rs = some rs' → ∃ ws', BU 1000 long l ws = some ws' ∧ Cor tab rs' ws' long ∧ ws'.b ++ rs'.b = ws.b ++ rs.b
 | [], e, rs, rs', ws, hc, h => by
  simp only [DD, Option.some.injEq] at h; subst h
  exact ⟨ws, by simp only [BU], hc, rfl⟩
 | t :: l, e, rs, rs', ws, hc, h => by
  simp only [DD, Option.bind_eq_some_iff] at h
  obtain ⟨u, hu, h⟩ := h
  obtain ⟨w1, h1, h2, h3⟩ := G2 hn t e rs u ws hc hu
  obtain ⟨w2, h4, h5, h6⟩ := Js hn l e u rs' w1 h2 h
  exact ⟨w2, by simp only [BU, h1, Option.bind_some]; exact h4, h5, h6.trans h3⟩
theorem He {tab : List ByteArray} {long : Nat} (hn : tab.Nodup) : ∀ (l : List T) (fs : List Ty) (rs rs' : RS) (ws : WS), Cor tab rs ws long → BT l fs rs = some rs' → ∃ ws', BU 1000 long l ws = some ws' ∧ Cor tab rs' ws' long ∧ ws'.b ++ rs'.b = ws.b ++ rs.b
 | [], [], rs, rs', ws, hc, h => by
  simp only [BT, Option.some.injEq] at h; subst h
  exact ⟨ws, by simp only [BU], hc, rfl⟩
 | [], f :: fs, rs, rs', ws, hc, h => by simp only [BT] at h; cases h
 | t :: l, [], rs, rs', ws, hc, h => by simp only [BT] at h; cases h
 | t :: l, f :: fs, rs, rs', ws, hc, h => by
  simp only [BT, Option.bind_eq_some_iff] at h
  obtain ⟨u, hu, h⟩ := h
  obtain ⟨w1, h1, h2, h3⟩ := G2 hn t f rs u ws hc hu
  obtain ⟨w2, h4, h5, h6⟩ := He hn l fs u rs' w1 h2 h
  exact ⟨w2, by simp only [BU, h1, Option.bind_some]; exact h4, h5, h6.trans h3⟩
end
theorem K1 {bs : List UInt8} {t : T} (h : DZ bs t) : CH t = some bs := by
 obtain ⟨tab, r, s', hb, hn, hc, h1, h2⟩ := h.parse
 have hlong := h.long
 have hshort := h.short
 have hbl : (body bs).length ≤ bs.length := by unfold body; simp; omega
 have hrl : r.length ≤ 16777216 := by
  have := congrArg List.length hb
  simp only [List.length_append] at this; omega
 have hcor : Cor tab ⟨r, tab, 0, 0⟩ ws0 16777216 := ⟨by simp [ws0], rfl, Nat.zero_le _, rfl, by show 0 + r.length ≤ _; omega⟩
 obtain ⟨ws', e1, e2, e3⟩ := G2 hn t _ _ _ _ hcor hc
 have hwt : ws'.tab = tab := by rw [e2.wt, h2]; exact List.take_length
 have hwb : ws'.b = r := by rw [h1, List.append_nil] at e3; exact e3
 have hfull : DE ws' = bs := by
  unfold DE
  rw [hwt, hwb, List.append_assoc, List.append_assoc, ← List.append_assoc (num tab.length), ← hb]
  have : magicB ++ body bs = bs.take (bs.length - 4) := by
   unfold body
   have h4 : (bs.take (bs.length - 4)).take 4 = magicB := by
    rw [List.take_take, Nat.min_eq_left (by omega)]; exact h.magic
   rw [← h4, List.take_append_drop]
  rw [this]; exact h.sum
 unfold CH Dk
 rw [e1]
 simp only [Option.bind_some]
 rw [hwb, if_neg (by omega)]
 simp only [Option.bind_some, hfull]
 rw [if_neg (by omega)]
end Go.Sx
namespace Go.Sx
mutual
def Kd : T → Ty → Prop
 | .int n, .int => Bu n
 | .bool _, .bool => True
 | .str _, .str => True
 | .list l, .list e => OX l e
 | .nil, .ptr _ => True
 | .ptr t, .ptr e => Kd t e
 | .agg sn l, .st sn' => sn = sn' ∧ KdF l sn'.fields
 | _, _ => False
def OX : List T → Ty → Prop
 | [], _ => True
 | t :: l, e => Kd t e ∧ OX l e
def KdF : List T → List Ty → Prop
 | [], [] => True
 | t :: l, f :: fs => Kd t f ∧ KdF l fs
 | _, _ => False
end
mutual
theorem Rep.kd {w : World} {S : Nat → Prop} : ∀ (t : T) (f : Ty) (cs : List Value), Rep w S t f cs → Kd t f
 | .int n, f, cs, h => by cases f <;> simp only [Rep] at h; simp only [Kd]; exact h.2
 | .bool n, f, cs, h => by cases f <;> simp only [Rep] at h; simp only [Kd]
 | .str n, f, cs, h => by cases f <;> simp only [Rep] at h; simp only [Kd]
 | .nil, f, cs, h => by cases f <;> simp only [Rep] at h; simp only [Kd]
 | .ptr t, f, cs, h => by
  cases f <;> simp only [Rep] at h
  obtain ⟨b, o, ds, _, _, _, _, _, h⟩ := h
  simp only [Kd]; exact Rep.kd t _ ds h
 | .list l, f, cs, h => by
  cases f <;> simp only [Rep] at h
  simp only [Kd]
  rcases h with ⟨_, rfl⟩ | ⟨b, o, cap, _, _, _, _, _, h⟩
  · simp only [OX]
  · exact RepL.kd l _ b o h
 | .agg sn l, f, cs, h => by
  cases f <;> simp only [Rep] at h
  simp only [Kd]
  exact ⟨h.1, RepF.kd l _ _ cs h.2.2⟩
theorem RepL.kd {w : World} {S : Nat → Prop} : ∀ (l : List T) (e : Ty) (b o : Nat), RepL w S e l b o → OX l e
 | [], e, b, o, h => by simp only [OX]
 | t :: l, e, b, o, h => by
  simp only [RepL] at h
  obtain ⟨⟨ds, _, _, h1⟩, h2⟩ := h
  simp only [OX]
  exact ⟨Rep.kd t e ds h1, RepL.kd l e b _ h2⟩
theorem RepF.kd {w : World} {S : Nat → Prop} : ∀ (l : List T) (fs : List Ty) (o : Nat) (cs : List Value), RepF w S l fs o cs → KdF l fs
 | [], [], o, cs, h => by simp only [KdF]
 | [], f :: fs, o, cs, h => by simp only [RepF] at h
 | t :: l, [], o, cs, h => by simp only [RepF] at h
 | t :: l, f :: fs, o, cs, h => by
  simp only [RepF] at h
  simp only [KdF]
  exact ⟨Rep.kd t f _ h.1, RepF.kd l fs _ cs h.2⟩
end
theorem LK (ws : WS) (x : ByteArray) : ws.tab <+: (ws.str x).tab ∧ (ws.str x).nest = ws.nest := by
 unfold WS.str
 split
 · exact ⟨List.prefix_refl _, rfl⟩
 · exact ⟨List.prefix_append _ _, rfl⟩
mutual
theorem I7 {most long : Nat} : ∀ (t : T) (ws ws' : WS), enc most long t ws = some ws' → ws.tab <+: ws'.tab ∧ ws'.nest = ws.nest
 | .int n, ws, ws', h => by simp only [enc, Option.some.injEq] at h; subst h; exact ⟨List.prefix_refl _, rfl⟩
 | .bool n, ws, ws', h => by simp only [enc, Option.some.injEq] at h; subst h; exact ⟨List.prefix_refl _, rfl⟩
 | .nil, ws, ws', h => by simp only [enc, Option.some.injEq] at h; subst h; exact ⟨List.prefix_refl _, rfl⟩
 | .str x, ws, ws', h => by simp only [enc, Option.some.injEq] at h; subst h; exact LK ws x
 | .ptr t, ws, ws', h => by simp only [enc] at h; have := I7 t (ws.num 1) _ h; exact this
 | .list l, ws, ws', h => by simp only [enc] at h; have := Ec l (ws.num l.length) _ h; exact this
 | .agg sn l, ws, ws', h => by
  simp only [enc] at h
  split at h
  · split at h
    · cases h
    · simp only [Option.map_eq_some_iff] at h
      obtain ⟨u, hu, rfl⟩ := h
      exact ⟨(Ec l _ u hu).1, rfl⟩
  · exact Ec l _ _ h
theorem Ec {most long : Nat} : ∀ (l : List T) (ws ws' : WS), BU most long l ws = some ws' → ws.tab <+: ws'.tab ∧ ws'.nest = ws.nest
 | [], ws, ws', h => by simp only [BU, Option.some.injEq] at h; subst h; exact ⟨List.prefix_refl _, rfl⟩
 | t :: l, ws, ws', h => by
  simp only [BU, Option.bind_eq_some_iff] at h
  obtain ⟨u, hu, h⟩ := h
  have a := I7 t _ _ hu
  have b := Ec l _ _ h
  exact ⟨a.1.trans b.1, b.2.trans a.2⟩
end
theorem M1 (sn : SN) : 1 ≤ sn.fields.length := by cases sn <;> decide
theorem KdF.len : ∀ {l : List T} {fs : List Ty}, KdF l fs → l.length = fs.length
 | [], [], _ => rfl
 | [], _ :: _, h => by simp only [KdF] at h
 | _ :: _, [], h => by simp only [KdF] at h
 | t :: l, f :: fs, h => by simp only [KdF] at h; simp [KdF.len h.2]
theorem Ku {a b : List ByteArray} (h : a <+: b) {i : Nat} {x : ByteArray} (hi : a[i]? = some x) : b[i]? = some x := by
 obtain ⟨c, rfl⟩ := h
 rw [List.getElem?_append_left (List.getElem?_eq_some_iff.1 hi).1]; exact hi
theorem Ng {n : Nat} {c r : List UInt8} {tab : List ByteArray} {u k : Nat} : (RS.mk (num n ++ c ++ r) tab u k).eat n = some ⟨c ++ r, tab, u, k⟩ := by
 rw [RS.eat_iff]; simp
theorem ES {n : Nat} {r : List UInt8} {tab : List ByteArray} {u k : Nat} : (RS.mk (num n ++ r) tab u k).eat n = some ⟨r, tab, u, k⟩ := by
 rw [RS.eat_iff]; simp
mutual
theorem GA {tab : List ByteArray} {long : Nat} (hn : tab.Nodup) : ∀ (t : T) (f : Ty) (ws ws' : WS), Kd t f → enc 1000 long t ws = some ws' → ws'.tab <+: tab → ∃ c, ws'.b = ws.b ++ c ∧ 1 ≤ c.length ∧ ∀ r, CK t f ⟨c ++ r, tab, ws.tab.length, ws.nest⟩ = some ⟨r, tab, ws'.tab.length, ws.nest⟩
 | .int n, f, ws, ws', hk, h, hp => by
  cases f <;> simp only [Kd] at hk
  simp only [enc, Option.some.injEq] at h; subst h
  exact ⟨num (GU n), rfl, DT _, fun r => by simp only [CK]; rw [if_pos ((Jd n).1 hk)]; exact ES⟩
 | .bool b, f, ws, ws', hk, h, hp => by
  cases f <;> simp only [Kd] at hk
  simp only [enc, Option.some.injEq] at h; subst h
  exact ⟨num b.toNat, rfl, DT _, fun r => by simp only [CK]; exact ES⟩
 | .nil, f, ws, ws', hk, h, hp => by
  cases f <;> simp only [Kd] at hk
  simp only [enc, Option.some.injEq] at h; subst h
  exact ⟨num 0, rfl, DT _, fun r => by simp only [CK]; exact ES⟩
 | .str x, f, ws, ws', hk, h, hp => by
  cases f <;> simp only [Kd] at hk
  simp only [enc, Option.some.injEq] at h; subst h
  cases hx : ws.tab.findIdx? (fun y => decide (y = x)) with
  | some k =>
   have hs : ws.str x = ws.num k := by unfold WS.str; rw [hx]
   rw [hs] at hp ⊢
   obtain ⟨h1, h2⟩ := Ex hx
   have hf := Ho hn (Ku hp h2)
   refine ⟨num k, rfl, DT _, fun r => ?_⟩
   simp only [CK, hf]
   rw [if_pos (by omega), ES]
   simp only [Option.map_some, WS.num]
   rw [Nat.max_eq_left (by omega)]
  | none =>
   have hs : ws.str x = { ws with tab := ws.tab ++ [x] }.num ws.tab.length := by unfold WS.str; rw [hx]
   rw [hs] at hp ⊢
   have hf := Ho hn (Ku hp (i := ws.tab.length) (x := x) (by simp [WS.num]))
   refine ⟨num ws.tab.length, rfl, DT _, fun r => ?_⟩
   simp only [CK, hf]
   rw [if_pos (Nat.le_refl _), ES]
   simp only [Option.map_some, WS.num, List.length_append, List.length_cons, List.length_nil]
   rw [Nat.max_eq_right (by omega)]
 | .ptr t, f, ws, ws', hk, h, hp => by
  cases f <;> simp only [Kd] at hk
  simp only [enc] at h
  obtain ⟨c, h1, h2, h3⟩ := GA hn t _ _ ws' hk h hp
  refine ⟨num 1 ++ c, by rw [h1]; simp only [WS.num, List.append_assoc], by rw [List.length_append]; omega, fun r => ?_⟩
  simp only [CK, Ng, Option.bind_some]
  exact h3 r
 | .list l, f, ws, ws', hk, h, hp => by
  cases f <;> simp only [Kd] at hk
  simp only [enc] at h
  obtain ⟨c, h1, h2, h3⟩ := Ju hn l _ _ ws' hk h hp
  have := DT l.length
  refine ⟨num l.length ++ c, by rw [h1]; simp only [WS.num, List.append_assoc], by rw [List.length_append]; omega, fun r => ?_⟩
  simp only [CK, Ng, Option.bind_some]
  rw [if_pos (by rw [List.length_append]; omega)]
  exact h3 r
 | .agg sn l, f, ws, ws', hk, h, hp => by
  cases f <;> simp only [Kd] at hk
  obtain ⟨rfl, hk⟩ := hk
  simp only [enc] at h
  have hlen := hk.len
  have hpos := M1 sn
  cases hd : sn.deep with
  | false =>
   rw [hd] at h
   obtain ⟨c, h1, h2, h3⟩ := GZ hn l _ ws ws' hk h hp
   exact ⟨c, h1, by omega, fun r => by simp only [CK, if_true, hd]; exact h3 r⟩
  | true =>
   rw [hd] at h
   simp only at h
   split at h
   · cases h
   · rename_i hno
     simp only [Option.map_eq_some_iff] at h
     obtain ⟨u, hu, rfl⟩ := h
     obtain ⟨c, h1, h2, h3⟩ := GZ hn l _ _ u hk hu hp
     refine ⟨c, h1, by omega, fun r => ?_⟩
     simp only [CK, if_true, hd]
     rw [if_neg (by omega), h3 r]
     rfl
theorem Ju {tab : List ByteArray} {long : Nat} (hn : tab.Nodup) : ∀ (l : List T) (e : Ty) (ws ws' : WS), OX l e → BU 1000 long l ws = some ws' → ws'.tab <+: tab → ∃ c, ws'.b = ws.b ++ c ∧ l.length ≤ c.length ∧ ∀ r, DD l e ⟨c ++ r, tab, ws.tab.length, ws.nest⟩ = some ⟨r, tab, ws'.tab.length, ws.nest⟩
 | [], e, ws, ws', hk, h, hp => by
  simp only [BU, Option.some.injEq] at h; subst h
  exact ⟨[], by simp, Nat.le_refl _, fun r => by simp only [DD, List.nil_append]⟩
 | t :: l, e, ws, ws', hk, h, hp => by
  simp only [OX] at hk
  simp only [BU, Option.bind_eq_some_iff] at h
  obtain ⟨u, hu, h⟩ := h
  have hm := Ec l _ _ h
  have hm1 := I7 t _ _ hu
  obtain ⟨c, h1, h2, h3⟩ := GA hn t e ws u hk.1 hu (hm.1.trans hp)
  obtain ⟨d, h4, h5, h6⟩ := Ju hn l e u ws' hk.2 h hp
  refine ⟨c ++ d, by rw [h4, h1, List.append_assoc], by rw [List.length_append, List.length_cons]; omega, fun r => ?_⟩
  simp only [DD, List.append_assoc, h3, Option.bind_some]
  rw [← hm1.2]; exact h6 r
theorem GZ {tab : List ByteArray} {long : Nat} (hn : tab.Nodup) : ∀ (l : List T) (fs : List Ty) (ws ws' : WS), KdF l fs → BU 1000 long l ws = some ws' → ws'.tab <+: tab → ∃ c, ws'.b = ws.b ++ c ∧ l.length ≤ c.length ∧ ∀ r, BT l fs ⟨c ++ r, tab, ws.tab.length, ws.nest⟩ = some ⟨r, tab, ws'.tab.length, ws.nest⟩
 | [], [], ws, ws', hk, h, hp => by
  simp only [BU, Option.some.injEq] at h; subst h
  exact ⟨[], by simp, Nat.le_refl _, fun r => by simp only [BT, List.nil_append]⟩
 | [], f :: fs, ws, ws', hk, h, hp => by simp only [KdF] at hk
 | t :: l, [], ws, ws', hk, h, hp => by simp only [KdF] at hk
 | t :: l, f :: fs, ws, ws', hk, h, hp => by
  simp only [KdF] at hk
  simp only [BU, Option.bind_eq_some_iff] at h
  obtain ⟨u, hu, h⟩ := h
  have hm := Ec l _ _ h
  have hm1 := I7 t _ _ hu
  obtain ⟨c, h1, h2, h3⟩ := GA hn t f ws u hk.1 hu (hm.1.trans hp)
  obtain ⟨d, h4, h5, h6⟩ := GZ hn l fs u ws' hk.2 h hp
  refine ⟨c ++ d, by rw [h4, h1, List.append_assoc], by rw [List.length_append, List.length_cons]; omega, fun r => ?_⟩
  simp only [BT, List.append_assoc, h3, Option.bind_some]
  rw [← hm1.2]; exact h6 r
end
theorem N0 {ws : WS} {x : ByteArray} (h : ws.tab.Nodup) : (ws.str x).tab.Nodup := by
 unfold WS.str
 split
 · exact h
 · rename_i hx
   show (ws.tab ++ [x]).Nodup
   rw [List.nodup_append]
   refine ⟨h, by simp, fun a ha b hb => ?_⟩
   rw [List.mem_singleton.1 hb]
   intro e
   have := List.findIdx?_eq_none_iff.1 hx a ha
   simp [e] at this
mutual
theorem Jh {most long : Nat} : ∀ (t : T) (ws ws' : WS), ws.tab.Nodup → enc most long t ws = some ws' → ws'.tab.Nodup
 | .int n, ws, ws', hn, h => by simp only [enc, Option.some.injEq] at h; subst h; exact hn
 | .bool n, ws, ws', hn, h => by simp only [enc, Option.some.injEq] at h; subst h; exact hn
 | .nil, ws, ws', hn, h => by simp only [enc, Option.some.injEq] at h; subst h; exact hn
 | .str x, ws, ws', hn, h => by simp only [enc, Option.some.injEq] at h; subst h; exact N0 hn
 | .ptr t, ws, ws', hn, h => by simp only [enc] at h; exact Jh t (ws.num 1) _ hn h
 | .list l, ws, ws', hn, h => by simp only [enc] at h; exact G1 l (ws.num l.length) _ hn h
 | .agg sn l, ws, ws', hn, h => by
  simp only [enc] at h
  split at h
  · split at h
    · cases h
    · simp only [Option.map_eq_some_iff] at h
      obtain ⟨u, hu, rfl⟩ := h
      exact G1 l { ws with nest := ws.nest + 1 } u hn hu
  · exact G1 l _ _ hn h
theorem G1 {most long : Nat} : ∀ (l : List T) (ws ws' : WS), ws.tab.Nodup → BU most long l ws = some ws' → ws'.tab.Nodup
 | [], ws, ws', hn, h => by simp only [BU, Option.some.injEq] at h; subst h; exact hn
 | t :: l, ws, ws', hn, h => by
  simp only [BU, Option.bind_eq_some_iff] at h
  obtain ⟨u, hu, h⟩ := h
  exact G1 l u _ (Jh t _ _ hn hu) h
end
theorem If {bs : List UInt8} {t : T} (hk : Kd t (.st .sheet)) (h : CH t = some bs) : DZ bs t := by
 have hnd : ∀ ws', enc 1000 16777216 t ws0 = some ws' → ws'.tab.Nodup := fun ws' he => Jh t ws0 ws' (by simp [ws0]) he
 unfold CH Dk at h
 simp only [Option.bind_eq_some_iff] at h
 obtain ⟨fb, ⟨ws', he, hb⟩, hl⟩ := h
 split at hb
 · cases hb
 · rename_i hwl
   split at hl
   · cases hl
   · rename_i hll
     simp only [Option.some.injEq] at hb hl
     subst hl
     obtain ⟨c, h1, h2, h3⟩ := GA (hnd ws' he) t _ ws0 ws' hk he (List.prefix_refl _)
     have h1' : ws'.b = c := h1
     have h3' := h3 []
     have hsl : (Mh (Pd (magicB ++ num ws'.tab.length ++ Bi ws'.tab ++ ws'.b))).length = 4 := rfl
     have hlen : fb.length = (magicB ++ num ws'.tab.length ++ Bi ws'.tab ++ ws'.b).length + 4 := by
      rw [← hb]; unfold DE BP; rw [List.length_append, hsl]
     have htake : fb.take (fb.length - 4) = magicB ++ num ws'.tab.length ++ Bi ws'.tab ++ ws'.b := by
      rw [hlen, Nat.add_sub_cancel, ← hb]; unfold DE BP; exact List.take_left
     have hm : magicB.length = 4 := rfl
     have hnp := DT ws'.tab.length
     refine ⟨by omega, ?_, ?_, ?_, ws'.tab, c, ⟨[], ws'.tab, ws'.tab.length, 0⟩, ?_, hnd ws' he, ?_, rfl, rfl⟩
     · rw [hlen]; simp only [List.length_append, h1']; omega
     · rw [← hb]; unfold DE BP
       simp only [List.append_assoc]
       rfl
     · rw [htake, ← hb]; rfl
     · unfold body
       rw [htake, h1']
       simp only [List.append_assoc]
       rfl
     · rw [List.append_nil] at h3'; exact h3'
end Go.Sx
namespace Go.Sx
theorem JZ (sn : SN) : 2 ≤ sn.fields.length := by cases sn <;> decide
theorem L7 : ∀ (l : List T) (fs : List Ty) (s s' : RS), BT l fs s = some s' → l.length = fs.length
 | [], [], s, s', h => rfl
 | [], f :: fs, s, s', h => by simp only [BT] at h; cases h
 | t :: l, [], s, s', h => by simp only [BT] at h; cases h
 | t :: l, f :: fs, s, s', h => by
  simp only [BT, Option.bind_eq_some_iff] at h
  obtain ⟨u, _, h⟩ := h
  simp [L7 l fs u s' h]
end Go.Sx
namespace Go.Sx
open Go.Proofs Go.Proofs.Tryz
section
variable {w : World} {t : TypeId}
theorem KQ {n d : Nat} (hd : 0 < d) : (binOp .rem t (.int .u32 (n : Int)) (.int .u32 (d : Int))).run prog w = .ok (.int .u32 ((n % d : Nat) : Int)) w := by
 show (Op.intDiv .rem .u32 n d).run prog w = _
 have h : ¬ ((d : Int) = 0) := by omega
 simp only [Op.intDiv, h, if_false]
 rw [show (n : Int).tmod (d : Int) = ((n % d : Nat) : Int) from rfl]; rfl
theorem KS {n d : Nat} (hd : 0 < d) (hn : n < 4294967296) : (binOp .quo t (.int .u32 (n : Int)) (.int .u32 (d : Int))).run prog w = .ok (.int .u32 ((n / d : Nat) : Int)) w := by
 show (Op.intDiv .quo .u32 n d).run prog w = _
 have h : ¬ ((d : Int) = 0) := by omega
 simp only [Op.intDiv, h, if_false]
 rw [show (n : Int).tdiv (d : Int) = ((n / d : Nat) : Int) from rfl, I8 (Int.natCast_nonneg _) (Int.ofNat_lt.2 (Nat.lt_of_le_of_lt (Nat.div_le_self n d) hn))]; rfl
end
theorem MP (x : BitVec 32) : O5 x = if x.toNat % 2 = 1 then (x >>> 1) ^^^ JR else x >>> 1 := by
 have h : (x &&& 1#32).toNat = x.toNat % 2 := by
  rw [BitVec.toNat_and]; exact Nat.and_two_pow_sub_one_eq_mod x.toNat 1
 unfold O5
 rcases IY x with h0 | h0
 · rw [h0] at h ⊢
   have h1 : x.toNat % 2 = 0 := by rw [← h]; rfl
   rw [if_neg (by omega)]
   have : (-(0#32) &&& JR) = 0#32 := by decide
   rw [this, BitVec.xor_zero]
 · rw [h0] at h ⊢
   have h1 : x.toNat % 2 = 1 := by rw [← h]; rfl
   rw [if_pos h1]
   have : (-(1#32) &&& JR) = JR := by decide
   rw [this]
theorem OP (x : BitVec 32) : Value.int .u32 ((x.toNat / 2 : Nat) : Int) = uv (x >>> 1) := by
 unfold uv
 rw [BitVec.toNat_ushiftRight, Nat.shiftRight_eq_div_pow]
theorem Se {w : World} {v : Value} {bs : List UInt8} (h : Bts w v bs) : Calls prog 26 [v].toArray w (Dq (fun r w' => r = uv (Pd bs) ∧ w' = w) (fun _ _ => False)) := by
 have hml : bs.length ≤ 9223372036854775807 := by have := h.1; simpa [maxLen] using this
 obtain ⟨g, cap, rfl, hget⟩ := h.val
 refine AB 34 func26 V V V ?_
 refine Af (Aa (Ah V V (Ae (Af (Aa (Ah V V (Ae ?_)))))))
 refine B9 (ι := Unit) (fun _ => [(3, uv (DM (BitVec.allOnes 32) bs))]) (fun _ w' => w = w') ?_ ?_
 · refine Af (Aa (Ah V V (Ae ?_)))
   refine A1 (AW (ι := Nat) (fun i => [(0, .slice g bs.length cap), (3, uv (DM (BitVec.allOnes 32) (bs.take i))), (4, .int .i64 i)]) (fun i w' => i ≤ bs.length ∧ w = w') (fun i => bs.length - i) 0 ⟨V, V, V, trivial⟩ ⟨Nat.zero_le _, rfl⟩ ?_)
   rintro i _ ⟨hi, rfl⟩
   refine Af (Af (Aa (Ac V V (Ac V V (AE V (Ay underlying22) V (Al V V V V (Ae ?_)))))))
   refine AK V (fun ht => A_ fun a ha => Ad ?_) (fun hf => AQ fun a ha => Aq (Aq (A3 (Ad ?_))))
   · have hlt : i < bs.length := by simp at ht; omega
     obtain ⟨x, hx⟩ : ∃ x, bs[i]? = some x := ⟨_, List.getElem?_eq_getElem hlt⟩
     obtain ⟨b, o, rfl, hc, _⟩ := hget i x hx
     have hi1 : ∀ w, (Instr.indexAt 22 (.slice (some ⟨b, o, none⟩) bs.length cap) (.int .i64 i)).run prog w = .ok (.pointer (some ⟨b, o + i, none⟩)) w := fun w => by
      have := Bp (P := prog) (w := w) (b := b) (o := o) (cap := cap) (i := (i : Int)) underlying22 Kw (by omega) (by omega : (i : Int) < (bs.length : Nat))
      rwa [Int.toNat_natCast, Nat.mul_one] at this
     generalize hr : DM (BitVec.allOnes 32) (bs.take i) = r at ha
     have hcx := x.toNat_lt
     refine A8 ha (Af (A1 (Af (Aa (Ac V V (Ac V V (Ac V V (A0 V V (hi1 _) V (Ai V (A4 Kw hc) V (AJ V (Bv runUnderlying5 runUnderlying85) V ?_)))))))))) 
     rw [I8 (by omega) (by omega)]
     rw [show Value.int .u32 ((x.toNat : Nat) : Int) = uv (BitVec.ofNat 32 x.toNat) by unfold uv; rw [BitVec.toNat_ofNat, Nat.mod_eq_of_lt (by omega)]]
     refine Al V V (FP (x := r) (y := BitVec.ofNat 32 x.toNat)) V (Ah V V (Ar [(0, .slice (some ⟨b, o, none⟩) bs.length cap), (3, uv (r ^^^ BitVec.ofNat 32 x.toNat)), (4, .int .i64 i)] ⟨V, V, V, trivial⟩ ?_))
     generalize hy : r ^^^ BitVec.ofNat 32 x.toNat = y
     refine Af (Aa (Ah V V (Ae ?_)))
     refine A1 (AW (ι := Nat) (fun k => [(0, .slice (some ⟨b, o, none⟩) bs.length cap), (3, uv (E1 k y)), (4, .int .i64 i), (5, .int .i64 k)]) (fun k w' => k ≤ 8 ∧ w = w') (fun k => 8 - k) 0 ⟨V, V, V, V, trivial⟩ ⟨by decide, rfl⟩ ?_)
     rintro k _ ⟨hk, rfl⟩
     refine Af (Af (Aa (Ac V V (Al V V V V (Ae ?_)))))
     refine AK V (fun ht => A_ fun a ha => Ad ?_) (fun hf => AQ fun a ha => Aq (Aq (A3 (Az (Ad ?_)))))
     · have hk8 : k < 8 := by simp at ht; omega
       generalize hz : E1 k y = z at ha
       have hzl := z.isLt
       refine A8 ha (Af (A1 (Af (Aa (Ac V V (Al V V (KQ (d := 2) (by decide)) V (Ah V V (Ae ?_))))))))
       refine Af (Aa (Ac V V (Al V V (KS (d := 2) (by decide) hzl) V (Ah V V (Ae ?_)))))
       rw [OP]
       refine Af (Aa (Ac V V (Al V V (Ej (c := decide (z.toNat % 2 = 1)) (decide_eq_decide.2 (by omega))) V (Ae ?_))))
       have fin : ∀ {a : Act} {m : Env}, Loc 34 [] m a → m.get 0 = some (.slice (some ⟨b, o, none⟩) bs.length cap) → m.get 3 = some (uv (O5 z)) → m.get 4 = some (.int .i64 i) → m.get 5 = some (.int .i64 k) → True := fun _ _ _ _ _ => trivial
       clear fin
       refine AK V (fun ht => ?_) (fun hf => A_ fun a ha => Az (Ad ?_))
       · have h1 : z.toNat % 2 = 1 := of_decide_eq_true ht
         refine Aa (Ac V V (Al V V (FP (x := z >>> 1) (y := JR)) V (Ah V V (A2 fun a ha => Az (Ad ?_)))))
         refine A8 ha (Aa (Ac V V (Al V V V V (Ah V V (A2 fun a ha => Ad ?_)))))
         refine ⟨k + 1, ha.weak ⟨rfl, ?_, rfl, by show some _ = some _; rw [AS (by omega)], trivial⟩, ⟨hk8, rfl⟩, by omega⟩
         show some _ = some _
         rw [E1, hz, MP, if_pos h1]
       · have h1 : ¬ z.toNat % 2 = 1 := of_decide_eq_false hf
         refine A8 ha (Aa (Ac V V (Al V V V V (Ah V V (A2 fun a ha => Ad ?_)))))
         refine ⟨k + 1, ha.weak ⟨rfl, ?_, rfl, by show some _ = some _; rw [AS (by omega)], trivial⟩, ⟨hk8, rfl⟩, by omega⟩
         show some _ = some _
         rw [E1, hz, MP, if_neg h1]
     · have : k = 8 := by simp at hf; omega
       subst this
       refine A8 ha (Aa (Ac V V (Al V V V V (Ah V V (A2 fun a ha => Ad ?_)))))
       refine ⟨i + 1, ha.weak ⟨rfl, ?_, by show some _ = some _; rw [AS (by omega)], trivial⟩, ⟨hlt, rfl⟩, by omega⟩
       show some _ = some _
       rw [BK hx, GC, hr, Q8, hy]
   · have : i = bs.length := by simp at hf; omega
     subst this
     refine ⟨(), ha.weak ⟨?_, trivial⟩, rfl⟩
     rw [List.take_length]; rfl
 · rintro _ _ rfl
   refine Af (Aa (Ac V V (Al V V (FP (x := DM (BitVec.allOnes 32) bs) (y := BitVec.allOnes 32)) V (Ah V V (Ae (AA fun a ha => Au V ha V ⟨?_, rfl⟩))))))
   rw [Pd, BitVec.xor_allOnes]
end Go.Sx
namespace Go.Sx
open Go.Proofs Go.Proofs.Tryz
theorem OA (x : BitVec 32) : ∀ k, k < 4 → (Mh x)[k]? = some ((x >>> (8 * k)).toNat % 256).toUInt8
 | 0, _ => by simp [Mh]
 | 1, _ => rfl
 | 2, _ => rfl
 | 3, _ => rfl
 | k + 4, h => by omega
theorem O7 (x : BitVec 32) (k : Nat) : (x >>> (8 * k)).toNat / 256 = (x >>> (8 * (k + 1))).toNat := by
 simp only [BitVec.toNat_ushiftRight, Nat.shiftRight_eq_div_pow]
 rw [Nat.div_div_eq_div_mul, show 8 * (k + 1) = 8 * k + 8 by omega, Nat.pow_add]
theorem fr_new {w : World} {o : Obj} : Fr (fun _ => False) w (fun b => b = w.heap.size) (w.alloc o) := ⟨rfl, rfl, rfl, by simp, fun b hb _ => heap_alloc_old w o b hb, fun b hb => .inr (by omega)⟩
theorem KI {b l c : Nat} : Bk (.slice (some ⟨b, 0, none⟩) l c) = fun k => k = b := by
 funext k; simp only [Bk, Value.ownBlock, Option.some.injEq, eq_iff_iff]; exact eq_comm
theorem PL {w : World} {v : Value} {bs : List UInt8} (h : Bts w v bs) (hl : bs.length ≤ 2 ^ 45) :
 Calls prog 14 [v].toArray w (Dq (fun v' w' => w'.ownsRow 0 5 1 v' (BP bs).length ((BP bs).map bv) ∧ Fr (fun _ => False) w (Bk v') w') (fun _ _ => False)) := by
 refine AB 24 func14 V V V ?_
 refine Af (Aa (Ah V V (Ae ?_)))
 refine Af (Aa (Ac V V (Aj call26 V V (Se h) ?_ Be)))
 rintro _ w1 ⟨rfl, hw⟩
 subst hw
 generalize hx : Pd bs = x
 refine Ah V V (Ae ?_)
 refine Af (Aa (A7 V JS V (Ac V V ?_)))
 obtain ⟨v2, w2, hr2, r2, f2⟩ := BC (ty := 22) Ki (h.keep0 (fr_new (o := .cells ([] : List Value).toArray 5))).src (by simp; omega)
 have f02 : Fr (fun _ => False) w1 (Bk v2) w2 := fr_new.trans (by rw [KI] at f2; exact f2)
 refine AU V V hr2 V (Ah V V (Ar [(3, uv x), (4, v2)] ⟨V, V, trivial⟩ ?_))
 refine B9 (ι := Value) (fun v => [(4, v)]) (fun v' w' => w'.ownsRow 0 5 1 v' (BP bs).length ((BP bs).map bv) ∧ Fr (fun _ => False) w1 (Bk v') w') ?_ ?_
 · refine Af (Aa (Ah V V (Ae ?_)))
   refine A1 (AW (ι := Nat × Value) (fun i => [(3, uv (x >>> (8 * i.1))), (4, i.2), (5, .int .i64 ((i.1 : Nat) : Int))]) (fun i w' => i.1 ≤ 4 ∧ w'.ownsRow 0 5 1 i.2 (bs ++ (Mh x).take i.1).length ((bs ++ (Mh x).take i.1).map bv) ∧ Fr (fun _ => False) w1 (Bk i.2) w') (fun i => 4 - i.1) (0, v2)
    ⟨by show some _ = some _; simp, rfl, rfl, trivial⟩ ⟨Nat.zero_le _, by simpa using r2, f02⟩ ?_)
   rintro ⟨k, v3⟩ w3 ⟨hk, r3, f3⟩
   simp only at hk r3 f3 ⊢
   refine Af (Af (Aa (Ac V V (Al V V V V (Ae ?_)))))
   refine AK V (fun ht => A_ fun a ha => Ad ?_) (fun hf => AQ fun a ha => Aq (Aq (A3 (Ad ?_))))
   · have hk4 : k < 4 := by simp at ht; omega
     generalize hy : x >>> (8 * k) = y at ha
     have hyl := y.isLt
     refine A8 ha (Af (A1 (Af (Aa (Ac V V (Ac V V (Al V V (KQ (d := 256) (by decide)) V (AJ V (Bv runUnderlying85 runUnderlying5) V ?_))))))))
     rw [HJ, Jf, Nat.mod_mod]
     have hlt4 : ((Mh x).take k).length = k := by simp [Mh]; omega
     refine A7 V (Hb V) V ?_
     obtain ⟨v4, w4, hr4, r4, f4⟩ := BC (w := w3.alloc (.cells [Value.int .u8 ((y.toNat % 256 : Nat) : Int)].toArray 5)) (ty := 22) (ys := [(y.toNat % 256).toUInt8]) (DC r3 _)
      (IJ (n := 1) (c := 1) underlying22 (by rw [List.map_cons, Fo _ (by omega)]; exact AN) V (Ks _)) (by rw [List.length_append, hlt4]; simp; omega)
     refine AU V V hr4 V (Ah V V (Ae ?_))
     refine Aa (Ac V V (Al V V (KS (d := 256) (by decide) hyl) V (Ah V V (A2 fun a ha => Az (Ad ?_)))))
     refine A8 ha (Aa (Ac V V (Al V V V V (Ah V V (A2 fun a ha => Ad ?_)))))
     have hget := OA x k hk4
     rw [hy] at hget
     refine ⟨(k + 1, v4), ha.weak ⟨?_, rfl, by show some _ = some _; rw [AS (by omega)], trivial⟩, ⟨hk4, ?_, f3.trans ((Fr.alloc _ _ _).trans f4)⟩, by simp only; omega⟩
     · show some _ = some _
       rw [← hy, O7]; rfl
     · have e : bs ++ (Mh x).take (k + 1) = bs ++ (Mh x).take k ++ [(y.toNat % 256).toUInt8] := by
        rw [List.take_add_one, hget, List.append_assoc]; rfl
       simp only [e]; exact r4
   · have : k = 4 := by simp at hf; omega
     subst this
     refine ⟨v3, ha.weak ⟨V, trivial⟩, ?_, f3⟩
     have e : BP bs = bs ++ (Mh x).take 4 := by unfold BP; rw [hx]; rfl
     rw [e]; exact r3
 · rintro v3 w3 ⟨r3, f3⟩
   exact Af (Aa (Ac V V (Ah V V (Ae (AA fun a ha => Au V ha V ⟨r3, f3⟩)))))
end Go.Sx
