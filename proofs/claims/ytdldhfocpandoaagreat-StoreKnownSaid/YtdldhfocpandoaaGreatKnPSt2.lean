import Derived.Test.YtdldhfocpandoaaGreatKnPSt1
/- DERIVED. The program's writer: w.string. -/
namespace Go.Sx
open Go.Proofs

theorem src_strs {w : World} {b n c : Nat} {l : List ByteArray} (hb : Blk w b (l.map Value.string) 9) (hn : l.length = n) : Src Tryz.prog 1 44 (.slice (some ⟨b, 0, none⟩) n c) n (l.map Value.string) w :=
  src_lit (P := Tryz.prog) (e := 9) Tryz.underlying44 hb (by simpa using hn) (by
    intro u hu
    obtain ⟨x, _, rfl⟩ := List.mem_map.1 hu
    rfl)

/-- append of some strings, onto strings of the call's own. -/
theorem append_strs {w : World} {v x : Value} {xs ys : List ByteArray} {u ty : TypeId} (r : w.ownsRow 0 9 1 v xs.length (xs.map Value.string)) (hs : Src Tryz.prog 1 u x ys.length (ys.map Value.string) w)
    (hl : xs.length + ys.length ≤ 2 ^ 42) : ∃ v' w', (Builtin.append_ #[44, u] ty #[v, x]).run Tryz.prog w = .ok v' w' ∧
      w'.ownsRow 0 9 1 v' (xs ++ ys).length ((xs ++ ys).map Value.string) ∧ Fr (ownB v) w (ownB v') w' := by
  obtain ⟨i, hi, hz, hs1, hb⟩ := info_of info9
  obtain ⟨v', w', h1, h2, h3, h4, _⟩ := append_own (P := Tryz.prog) (ty := ty) (e := 9) (bytes := 16) (z := .string ⟨#[]⟩) Tryz.underlying44 hi hz hs1 hb rfl r hs (by simp only [maxLen]; omega) (by omega)
  exact ⟨v', w', h1, by simpa using h2, Fr.of_grown h3 h4⟩

theorem lit_str {w : World} {x : ByteArray} : (Instr.buildSlice 44 1 #[(0, .string x)]).run Tryz.prog w = .ok (.slice (some ⟨w.heap.size, 0, none⟩) 1 1) (w.alloc (.cells [Value.string x].toArray 9)) :=
  slice_lit1 Tryz.underlying44 ty9 Tryz.zeroValue9 rfl rfl

theorem ty44 : IsTy Tryz.prog 44 false 1 := ⟨Tryz.isAgg44, Tryz.sizeOf44⟩
theorem ty131 : IsTy Tryz.prog 131 false 1 := ⟨Tryz.isAgg131, Tryz.sizeOf131⟩

theorem splice_1 (a b c : Value) (cs : List Value) : splice (a :: b :: cs) 1 [c] = a :: c :: cs := by simp [splice]

section
variable {w0 : World} {S : Nat → Prop} {p most long : Nat} {s : WS} {O : Nat → Prop} {w : World}

theorem WSt.addTab (h : WSt w0 S p most long s O w) {x : ByteArray} (hx : x.size ≤ maxLen) (hnx : x ∉ s.tab) : ∃ vt bm w1, w.cell? ⟨p, 1, none⟩ = some vt ∧ w.cell? ⟨p, 2, none⟩ = some (.map (some bm)) ∧
    w.ownsRow 0 9 1 vt s.tab.length (s.tab.map Value.string) ∧
    (Instr.mapUpdate 131 (.map (some bm)) (.string x) (.int .i64 s.tab.length)).run Tryz.prog w = .ok () w1 ∧ w1.cell? ⟨p, 1, none⟩ = some vt ∧ w1.ownsRow 0 9 1 vt s.tab.length (s.tab.map Value.string) ∧
    ∀ vt' w', Fr (ownB vt) w1 (ownB vt') w' → w'.ownsRow 0 9 1 vt' (s.tab ++ [x]).length ((s.tab ++ [x]).map Value.string) →
      ∃ w'' O', (storeVar 44 ⟨p, 1, none⟩ vt').run Tryz.prog w' = .ok () w'' ∧ Fr O w O' w'' ∧ WSt w0 S p most long { s with tab := s.tab ++ [x] } O' w'' := by
  obtain ⟨vb, vt, bm, m⟩ := h.mem
  obtain ⟨w1, hr, hm1, f0⟩ := tab_update m.mp h.tabs hx hnx
  have hp : p < w.heap.size := h.lt p m.op
  have k1 : ∀ b, b ≠ bm → b < w.heap.size → w1.heap[b]? = w.heap[b]? := fun b hb hl => f0.blk b hl hb
  have hp1 : Blk w1 p [vb, vt, .map (some bm), .int .i64 s.nest, .int .i64 most, .int .i64 long] 185 := (k1 p m.pm hp).trans m.blk
  have r1 : w1.ownsRow 0 9 1 vt s.tab.length (s.tab.map Value.string) := ownsRow_agree m.rt (fun b hb => k1 b (m.ot b hb).2.2 (ownsRow_own_lt m.rt hb))
  refine ⟨vt, bm, w1, by rw [m.blk.cell]; rfl, by rw [m.blk.cell]; rfl, m.rt, hr, by rw [hp1.cell]; rfl, r1, ?_⟩
  intro vt' w' f r
  have hs1 : w.heap.size ≤ w1.heap.size := f0.size
  have hbp : w'.heap[p]? = w1.heap[p]? := f.blk p (by omega) (fun ho => (m.ot p ho).2.1 rfl)
  have hblk : Blk w' p [vb, vt, .map (some bm), .int .i64 s.nest, .int .i64 most, .int .i64 long] 185 := hbp.trans hp1
  have hne : ∀ k, ownB vt' k → k ≠ p ∧ k ≠ bm ∧ ¬ ownB vb k := by
    intro k hk
    rcases f.own k hk with h1 | h1
    · exact ⟨(m.ot k h1).2.1, (m.ot k h1).2.2, fun hb => (m.ob k hb).2.2.2 h1⟩
    · refine ⟨by omega, ?_, ?_⟩
      · have := h.lt bm m.om; omega
      · intro ht; have := ownsRow_own_lt m.rb ht; omega
  have hvb : vt'.cells = [vt'].toArray ∧ vt'.oneCell' = true := by
    rcases r.2 with ⟨rfl, _⟩ | ⟨g, cap, cur, rfl, _⟩ <;> exact ⟨rfl, rfl⟩
  have hst := store_at (P := Tryz.prog) (w := w') (t := 44) (n := 1) (agg := false) (b := p) (o := 1) (v := vt') ty44 hvb.1 rfl (by simpa using hvb.2) hblk (by simp)
  rw [splice_1] at hst
  have f1 : Fr O w (grow O w w1) w1 := f0.grow (fun b hb => by subst hb; exact m.om)
  have f2 : Fr (grow O w w1) w1 (grow (grow O w w1) w1 w') w' := f.grow (fun b hb => .inl (m.ot b hb).1)
  have f3 : Fr (grow (grow O w w1) w1 w') w' (grow (grow O w w1) w1 w') (w'.setRow p [vb, vt', .map (some bm), .int .i64 s.nest, .int .i64 most, .int .i64 long].toArray) := Fr.setRow _ (.inl (.inl m.op))
  have hoth : ∀ b, b ≠ p → (w'.setRow p [vb, vt', .map (some bm), .int .i64 s.nest, .int .i64 most, .int .i64 long].toArray).heap[b]? = w'.heap[b]? := fun b hb => setRow_other w' p b _ hb
  refine ⟨_, _, hst, f1.trans (f2.trans f3), ?_, ?_, ?_, ?_, ?_, ?_⟩
  · intro b hb hl
    have hi := h.inp b hb hl
    have hbl : b < w.heap.size := Nat.lt_of_lt_of_le hl h.base
    refine ⟨fun ho => ho.elim (fun ho => ho.elim hi.1 (fun hg => by omega)) (fun hg => by omega), ?_⟩
    rw [hoth b (fun e => hi.1 (e ▸ m.op)), f.blk b (by omega) (fun ho => hi.1 (m.ot b ho).1), k1 b (fun e => hi.1 (e ▸ m.om)) hbl]
    exact hi.2
  · intro b hb
    simp only [setRow_size]
    refine hb.elim (fun ho => ho.elim (fun ho => ?_) (fun hg => ?_)) (fun hg => hg.2)
    · have := h.lt b ho; have := f.size; omega
    · have := f.size; omega
  · simp only [setRow_size]
    have := f.size; have := h.base; omega
  · have hvb' : ∀ b, ownB vb b → w'.heap[b]? = w.heap[b]? := fun b hb => by
      have hl := ownsRow_own_lt m.rb hb
      rw [f.blk b (by omega) (fun ho => (m.ob b hb).2.2.2 ho), k1 b (m.ob b hb).2.2.1 hl]
    have hbm : w'.heap[bm]? = w1.heap[bm]? := f.blk bm (by have := h.lt bm m.om; omega) (fun ho => (m.ot bm ho).2.2 rfl)
    refine ⟨vb, vt', bm, hblk.setRow _, ownsRow_agree m.rb (fun b hb => (hoth b (m.ob b hb).2.1).trans (hvb' b hb)), ownsRow_agree r (fun b hb => hoth b (hne b hb).1), hm1.agree ((hoth bm (fun e => m.pm e.symm)).trans hbm), .inl (.inl m.op), .inl (.inl m.om), ?_, ?_, m.pm⟩
    · intro k hk
      exact ⟨.inl (.inl (m.ob k hk).1), (m.ob k hk).2.1, (m.ob k hk).2.2.1, fun ht => (hne k ht).2.2 hk⟩
    · intro k hk
      refine ⟨?_, (hne k hk).1, (hne k hk).2.1⟩
      rcases f.own k hk with h1 | h1
      · exact .inl (.inl (m.ot k h1).1)
      · exact .inr ⟨h1, ownsRow_own_lt r hk⟩
  · intro y hy
    rcases List.mem_append.1 hy with h1 | h1
    · exact h.tabs y h1
    · rw [List.mem_singleton.1 h1]; exact hx
  · rw [List.nodup_append]
    exact ⟨h.nodup, by simp, fun a ha b hb => by rw [List.mem_singleton.1 hb]; exact fun e => hnx (e ▸ ha)⟩

/-- What the map says of a string. -/
theorem WSt.look (h : WSt w0 S p most long s O w) {x : ByteArray} (hx : x.size ≤ maxLen) : ∃ bm, w.cell? ⟨p, 2, none⟩ = some (.map (some bm)) ∧
    (Instr.lookup 131 (.map (some bm)) (.string x) true).run Tryz.prog w =
      .ok (match s.tab.findIdx? (fun y => decide (y = x)) with | some j => .tuple #[.int .i64 j, .bool true] | none => .tuple #[.int .i64 0, .bool false]) w := by
  obtain ⟨vb, vt, bm, m⟩ := h.mem
  exact ⟨bm, by rw [m.blk.cell]; rfl, tab_lookup m.mp h.tabs h.nodup hx⟩
end

/-- w.string -/
theorem c151 {w0 : World} {S : Nat → Prop} {p most long : Nat} {x : ByteArray} (hx : x.size ≤ maxLen) : WCall w0 S p most long 151 (.string x) (fun s => some (s.str x)) 1 := by
  intro s O w hw hu
  obtain ⟨bm, hbm, hlk⟩ := hw.look hx
  refine calls_W 48 Tryz.func151 rfl rfl rfl ?_
  refine W.seq (W.region (WL.move rfl rfl (WL.nilCheck rfl rfl (WL.fieldAddr rfl (field185_2 _ _ _) rfl (WL.load rfl (load1 ty131 hbm) rfl (WL.move rfl rfl (WL.lookup rfl rfl hlk rfl ?_)))))))
  have hu' : s.use ≤ 2 ^ 40 - 11 := by omega
  have hub : s.b.length ≤ 2 ^ 40 ∧ s.tab.length ≤ 2 ^ 40 := by simp only [WS.use] at hu'; omega
  obtain ⟨c, ok, hres, hcase⟩ : ∃ (c : Nat) (ok : Bool), (match s.tab.findIdx? (fun y => decide (y = x)) with | some j => Value.tuple #[.int .i64 (j : Int), .bool true] | none => .tuple #[.int .i64 0, .bool false]) = .tuple #[.int .i64 c, .bool ok] ∧
      ((ok = true ∧ c < s.tab.length ∧ s.num c = s.str x) ∨ (ok = false ∧ x ∉ s.tab ∧ ({ s with tab := s.tab ++ [x] } : WS).num s.tab.length = s.str x)) := by
    cases hf : s.tab.findIdx? (fun y => decide (y = x)) with
    | some j => exact ⟨j, true, rfl, .inl ⟨rfl, (idx_lt hf).1, by unfold WS.str; rw [hf]⟩⟩
    | none =>
      refine ⟨0, false, rfl, .inr ⟨rfl, ?_, by unfold WS.str; rw [hf]⟩⟩
      intro hm
      have := List.findIdx?_eq_none_iff.1 hf x hm
      simp at this
  rw [hres]
  refine WL.move rfl rfl (WL.extract rfl rfl rfl (WL.extract rfl rfl rfl (WL.assign rfl rfl (WL.assign rfl rfl (WL.keep [(0, ptr p), (1, .string x), (4, .int .i64 c), (5, .bool ok)] ⟨rfl, rfl, rfl, rfl, trivial⟩ ?_)))))
  refine W.seqI (ι := WS × (Nat → Prop) × Nat) (fun i => [(0, ptr p), (4, .int .i64 i.2.2)]) (fun i w1 => WSt w0 S p most long i.1 i.2.1 w1 ∧ Fr O w i.2.1 w1 ∧ i.2.2 < 9223372036854775807 ∧ i.1.b.length ≤ 2 ^ 40 ∧ i.1.num i.2.2 = s.str x) ?_ ?_
  · refine W.seq (W.region (WL.move rfl rfl (WL.not rfl rfl (WL.next (W.cond rfl (fun hok => ?_) (fun hok => W.skip fun a ha => then_normal ?_))))))
    · have hok' : ok = false := by simpa using hok
      rcases hcase with ⟨h1, _⟩ | ⟨_, hnx, hst⟩
      · rw [hok'] at h1; cases h1
      obtain ⟨vt, bm', w1, hc1, hc2, hrt, hup, hc1', hrt', hfin⟩ := hw.addTab hx hnx
      refine W.seq (W.region (WL.move rfl rfl (WL.nilCheck rfl rfl (WL.fieldAddr rfl (field185_1 _ _ _) rfl (WL.load rfl (load1 ty44 hc1) rfl ?_)))))
      obtain ⟨g, n, cp, hvt⟩ : ∃ g n cp, vt = .slice g n cp ∧ n = s.tab.length := by
        rcases hrt.2 with ⟨h1, h2⟩ | ⟨g, cap, cur, h1, _⟩
        · exact ⟨none, 0, 0, h1, h2.symm⟩
        · exact ⟨_, _, _, h1, rfl⟩
      obtain ⟨rfl, hn⟩ := hvt
      refine WL.len rfl (len_slice Tryz.underlying44) rfl (WL.assign rfl rfl (WL.next ?_))
      rw [hn]
      refine W.seq (W.region (WL.move rfl rfl (WL.nilCheck rfl rfl (WL.fieldAddr rfl (field185_2 _ _ _) rfl (WL.load rfl (load1 ty131 hc2) rfl (WL.move rfl rfl (WL.move rfl rfl (WL.mapUpdate rfl rfl rfl hup (WL.next ?_)))))))))
      refine W.region (WL.move rfl rfl (WL.move rfl rfl (WL.nilCheck rfl rfl (WL.fieldAddr rfl (field185_1 _ _ _) rfl (WL.load rfl (load1 ty44 hc1') rfl (WL.move rfl rfl (WL.buildSlice rfl lit_str rfl ?_)))))))
      obtain ⟨v2, w2, hr2, r2, f2⟩ := append_strs (w := w1.alloc (.cells [Value.string x].toArray 9)) (ty := 44) (ys := [x]) (ownsRow_alloc hrt' _) (src_strs (n := 1) (c := 1) Blk.alloc_new rfl) (by simp; omega)
      obtain ⟨w3, O3, hst3, f3, hw3⟩ := hfin v2 w2 ((Fr.alloc _ _ _).trans f2) r2
      refine WL.append rfl rfl hr2 rfl (WL.nilCheck rfl rfl (WL.fieldAddr rfl (field185_1 _ _ _) rfl (WL.store rfl rfl hst3 (WL.nil fun a ha => then_normal ?_))))
      exact ⟨(_, O3, s.tab.length), ha.weak ⟨rfl, rfl, trivial⟩, hw3, f3, by show s.tab.length < _; omega, hub.1, hst⟩
    · have hok' : ok = true := by simpa using hok
      rcases hcase with ⟨_, hc, hst⟩ | ⟨h1, _⟩
      · exact ⟨(s, O, c), ha.weak ⟨rfl, rfl, trivial⟩, hw, Fr.refl _ _, by show c < _; omega, hub.1, hst⟩
      · rw [hok'] at h1; cases h1
  · rintro ⟨s1, O1, c1⟩ w1 ⟨hw1, f1, hc1, hb1, hst⟩
    simp only at hw1 f1 hc1 hb1 hst ⊢
    obtain ⟨vb, hvb, hrb, hput⟩ := hw1.put
    refine W.region (WL.move rfl rfl (WL.move rfl rfl (WL.nilCheck rfl rfl (WL.fieldAddr rfl (field185_0 _ _ _) rfl (WL.load rfl (load1 ty22 hvb) rfl (WL.move rfl rfl (WL.convert rfl (conv_int Tryz.runUnderlying3 Tryz.runUnderlying164) rfl ?_)))))))
    rw [wrap_u64 (by omega) (by omega)]
    refine WL.call Tryz.call97 rfl rfl (c97 hrb (by omega) (by have := num_len10 (n := c1) (by omega); omega)) ?_ (fun _ _ h => h.elim)
    rintro v' w2 ⟨r2, f2⟩
    obtain ⟨w3, O', hst3, f3, hw3⟩ := hput v' w2 _ f2 r2
    refine WL.nilCheck rfl rfl (WL.fieldAddr rfl (field185_0 _ _ _) rfl (WL.store rfl rfl hst3 (WL.nil fun a ha => post_end0 rfl ha ⟨rfl, _, _, rfl, f1.trans f3, ?_⟩)))
    rw [← hst]; exact hw3
end Go.Sx

/- DERIVED. The program's writer: several numbers, bools; lists: what their loops need. -/
namespace Go.Sx
open Go.Proofs

def WS.nums (s : WS) : List Nat → WS
  | [] => s
  | n :: l => (s.num n).nums l

theorem WS.nums_snoc : ∀ (l : List Nat) (s : WS) (n : Nat), s.nums (l ++ [n]) = (s.nums l).num n
  | [], _, _ => rfl
  | m :: l, s, n => WS.nums_snoc l (s.num m) n

theorem take_snoc {α : Type} {l : List α} {i : Nat} {x : α} (h : l[i]? = some x) : l.take (i + 1) = l.take i ++ [x] := by
  rw [List.take_add_one, h]; rfl

theorem encL_append {most long : Nat} : ∀ (l k : List T) (s : WS), encL most long (l ++ k) s = (encL most long l s).bind (encL most long k)
  | [], k, s => by simp [encL]
  | t :: l, k, s => by
    simp only [List.cons_append, encL]
    cases enc most long t s with
    | none => rfl
    | some u => exact encL_append l k u

theorem encL_one {most long : Nat} (t : T) (s : WS) : encL most long [t] s = enc most long t s := by
  simp only [encL]
  cases enc most long t s <;> rfl

/-- What follows a failure does not matter. -/
theorem encL_none {most long : Nat} {l : List T} {i : Nat} {t : T} {s s' : WS} (h : l[i]? = some t) (h1 : encL most long (l.take i) s = some s') (h2 : enc most long t s' = none) : encL most long l s = none := by
  have : l = (l.take i ++ [t]) ++ l.drop (i + 1) := by rw [← take_snoc h, List.take_append_drop]
  rw [this, encL_append, encL_append, h1]
  simp [encL_one, h2]

theorem T.wts_take {l : List T} {i : Nat} {t : T} (h : l[i]? = some t) : T.wts (l.take i) + t.wt ≤ T.wts l := by
  have key : ∀ (a b : List T), T.wts (a ++ b) = T.wts a + T.wts b := by
    intro a b
    induction a with
    | nil => simp [T.wts]
    | cons x a ih => simp [T.wts, ih]; omega
  have : l = (l.take i ++ [t]) ++ l.drop (i + 1) := by rw [← take_snoc h, List.take_append_drop]
  have e := congrArg T.wts this
  rw [key, key] at e
  simp only [T.wts] at e
  omega

/-- A new variable that holds what was loaded. -/
theorem new_var {P : Program} {w : World} {te n : Nat} {agg : Bool} {z v : Value} {ds : List Value} (ht : IsTy P te agg n) (hz : z.cells.size = n) (hl : ds.length = n) (hv : v.cells = ds.toArray) (h1 : ∀ x ∈ ds, x.oneCell' = true) :
    ∃ w2, (storeVar te ⟨w.heap.size, 0, none⟩ v).run P (w.alloc (.cells z.cells te)) = .ok () w2 ∧ Blk w2 w.heap.size ds te ∧ Fr (fun _ => False) w (fun b => b = w.heap.size) w2 ∧ w2.heap.size = w.heap.size + 1 := by
  have hb : Blk (w.alloc (.cells z.cells te)) w.heap.size z.cells.toList te := by
    have := heap_alloc_new w (.cells z.cells te)
    simpa [Blk] using this
  have hst := store_at (P := P) (o := 0) (v := v) (vs := ds) ht hv hl h1 hb (by simp [hl, hz])
  have hs : splice z.cells.toList 0 ds = ds := by
    simp only [splice, List.take_zero, List.nil_append, Nat.zero_add]
    rw [List.drop_eq_nil_of_le (by simp [hl, hz])]
    simp
  rw [hs] at hst
  refine ⟨_, hst, hb.setRow ds, ⟨rfl, rfl, rfl, by simp, fun b hb' _ => ?_, fun b hb' => .inr (by omega)⟩, by simp⟩
  rw [setRow_other _ _ _ _ (by omega), heap_alloc_old w _ b hb']

mutual
theorem Rep.one {w : World} {S : Nat → Prop} : ∀ (t : T) (f : Ty) (cs : List Value), Rep w S t f cs → cs.length = f.size ∧ (∀ x ∈ cs, x.oneCell' = true)
  | .int n, f, cs, h => by cases f <;> simp only [Rep] at h; rw [h.1]; simp [Ty.size, Value.oneCell']
  | .bool n, f, cs, h => by cases f <;> simp only [Rep] at h; rw [h]; simp [Ty.size, Value.oneCell']
  | .str n, f, cs, h => by cases f <;> simp only [Rep] at h; rw [h.1]; simp [Ty.size, Value.oneCell']
  | .nil, f, cs, h => by cases f <;> simp only [Rep] at h; rw [h]; simp [Ty.size, Value.oneCell']
  | .ptr t, f, cs, h => by
    cases f <;> simp only [Rep] at h
    obtain ⟨b, o, ds, h, _⟩ := h; rw [h]; simp [Ty.size, Value.oneCell']
  | .list l, f, cs, h => by
    cases f <;> simp only [Rep] at h
    rcases h with h | ⟨b, o, cap, h, _⟩
    · rw [h.1]; simp [Ty.size, Value.oneCell']
    · rw [h]; simp [Ty.size, Value.oneCell']
  | .agg s l, f, cs, h => by
    cases f <;> simp only [Rep] at h
    rename_i s'
    obtain ⟨rfl, h1, h2⟩ := h
    refine ⟨h1, ?_⟩
    have := RepF.one l _ 0 cs h2
    intro x hx
    obtain ⟨i, hi⟩ := List.mem_iff_getElem?.1 hx
    have hi' := (List.getElem?_eq_some_iff.1 hi).1
    refine this i x (Nat.zero_le _) ?_ hi
    have hsz : (s.fields.map Ty.size).sum = s.size := by cases s <;> decide
    omega
theorem RepF.one {w : World} {S : Nat → Prop} : ∀ (l : List T) (fs : List Ty) (o : Nat) (cs : List Value), RepF w S l fs o cs → ∀ i x, o ≤ i → i < o + (fs.map Ty.size).sum → cs[i]? = some x → x.oneCell' = true
  | [], fs, o, cs, h, i, x, h1, h2, h3 => by
    cases fs <;> simp only [RepF] at h
    simp at h2; omega
  | t :: l, fs, o, cs, h, i, x, h1, h2, h3 => by
    cases fs <;> simp only [RepF] at h
    rename_i f fs
    simp only [List.map_cons, List.sum_cons] at h2
    by_cases hi : i < o + f.size
    · have := (Rep.one t f _ h.1).2 x
      apply this
      refine List.mem_of_getElem? (i := i - o) ?_
      rw [List.getElem?_take, if_pos (by omega), List.getElem?_drop, show o + (i - o) = i from by omega, h3]
    · exact RepF.one l fs _ cs h.2 i x (by omega) (by omega) h3
end

/-- w.ints, over a row of the caller's. -/
theorem c207 {w0 : World} {S : Nat → Prop} {p most long : Nat} {ns : List Int} (hns : ∀ n ∈ ns, isInt n) {s : WS} {O : Nat → Prop} {w : World} (hw : WSt w0 S p most long s O w) (hu : s.use + 11 * ns.length ≤ 2 ^ 40)
    {b : Nat} (hb : Own O w b (ns.map (Value.int .i64)) 3) :
    Calls Tryz.prog 207 [ptr p, .slice (some ⟨b, 0, none⟩) ns.length ns.length].toArray w (End (fun v w' => v = .tuple #[] ∧ ∃ O', Fr O w O' w' ∧ WSt w0 S p most long (s.nums (ns.map zig)) O' w') (fun _ _ => False)) := by
  refine calls_W 16 Tryz.func207 rfl rfl rfl ?_
  refine W.seq (W.region (WL.move rfl rfl (WL.len rfl (len_slice Tryz.underlying262) rfl (WL.move rfl rfl (WL.next ?_)))))
  refine W.block (W.loop (ι := Nat × (Nat → Prop)) (fun i => [(0, ptr p), (6, .slice (some ⟨b, 0, none⟩) ns.length ns.length), (7, .int .i64 ns.length), (8, .int .i64 i.1)])
    (fun i w' => i.1 ≤ ns.length ∧ WSt w0 S p most long (s.nums ((ns.take i.1).map zig)) i.2 w' ∧ Fr O w i.2 w' ∧ (s.nums ((ns.take i.1).map zig)).use ≤ s.use + 11 * i.1) (fun i => ns.length - i.1)
    (0, O) ⟨rfl, rfl, rfl, rfl, trivial⟩ ⟨Nat.zero_le _, hw, Fr.refl _ _, Nat.le_refl _⟩ ?_)
  rintro ⟨i, Oi⟩ wi ⟨hi, hwi, fi, hui⟩
  simp only at hi hwi fi hui ⊢
  refine W.seq (W.region (WL.binInt rfl rfl rfl rfl (WL.next (W.seq ?_))))
  refine W.cond rfl (fun ht => W.skip fun a ha => then_normal ?_) (fun hf => W.exit fun a ha => then_exit (then_exit (exit_here ?_)))
  · have hlt : i < ns.length := by simp at ht; omega
    obtain ⟨n, hn⟩ : ∃ n, ns[i]? = some n := ⟨_, List.getElem?_eq_getElem hlt⟩
    have hin := hns n (List.mem_of_getElem? hn)
    have hbi := fi.keep hb
    have hcell : wi.cell? ⟨b, 0 + i * 1, none⟩ = some (.int .i64 n) := by rw [hbi.blk.cell]; simp [hn]
    refine (W.seq (W.block (W.seq (W.region (WL.indexAddr rfl rfl (indexSlice Tryz.underlying262 ty3 (by omega) (by omega)) rfl ?_))))) a ha
    rw [Int.toNat_natCast]
    refine WL.load rfl (load1 ty3 hcell) rfl (WL.assign rfl rfl (WL.next ?_))
    refine W.region (WL.move rfl rfl (WL.move rfl rfl (WL.call Tryz.call218 rfl rfl (c218 hin _ _ _ hwi (by omega)) ?_ (fun _ _ h => by obtain ⟨_, h, _⟩ := h; cases h))))
    rintro v w2 ⟨rfl, s2, O2, hs2, f2, hw2⟩
    cases hs2
    have hsn : (s.nums ((ns.take i).map zig)).num (zig n) = s.nums ((ns.take (i + 1)).map zig) := by rw [take_snoc hn, List.map_append, ← WS.nums_snoc]; rfl
    refine WL.nil fun a ha => block_normal (then_normal ((W.region (WL.binInt rfl rfl rfl rfl (WL.move rfl rfl (WL.nil fun a ha => then_normal ?_)))) a ha))
    refine ⟨(i + 1, O2), ha.weak ⟨rfl, rfl, rfl, ?_, trivial⟩, ⟨hlt, by rw [← hsn]; exact hw2, fi.trans f2, ?_⟩, by simp only; omega⟩
    · show some (Value.int .i64 (IntKind.i64.wrap ((i : Int) + 1))) = some (Value.int .i64 ((i + 1 : Nat) : Int))
      rw [wrap_i64 (by unfold isInt; omega)]; rfl
    · rw [← hsn]
      have := WS.num_use (s := s.nums ((ns.take i).map zig)) (zig_lt n)
      simp only; omega
  · have hge : i = ns.length := by simp at hf; omega
    subst hge
    refine post_end0 rfl ha ⟨rfl, Oi, fi, ?_⟩
    rw [List.take_length] at hwi; exact hwi
/-- w.bools, over a row of the caller's. -/
theorem c206 {w0 : World} {S : Nat → Prop} {p most long : Nat} {ns : List Bool} {s : WS} {O : Nat → Prop} {w : World} (hw : WSt w0 S p most long s O w) (hu : s.use + 11 * ns.length ≤ 2 ^ 40)
    {b : Nat} (hb : Own O w b (ns.map Value.bool) 4) :
    Calls Tryz.prog 206 [ptr p, .slice (some ⟨b, 0, none⟩) ns.length ns.length].toArray w (End (fun v w' => v = .tuple #[] ∧ ∃ O', Fr O w O' w' ∧ WSt w0 S p most long (s.nums (ns.map Bool.toNat)) O' w') (fun _ _ => False)) := by
  refine calls_W 24 Tryz.func206 rfl rfl rfl ?_
  refine W.seq (W.region (WL.move rfl rfl (WL.len rfl (len_slice Tryz.underlying349) rfl (WL.move rfl rfl (WL.next ?_)))))
  refine W.block (W.loop (ι := Nat × (Nat → Prop)) (fun i => [(0, ptr p), (7, .slice (some ⟨b, 0, none⟩) ns.length ns.length), (8, .int .i64 ns.length), (9, .int .i64 i.1)])
    (fun i w' => i.1 ≤ ns.length ∧ WSt w0 S p most long (s.nums ((ns.take i.1).map Bool.toNat)) i.2 w' ∧ Fr O w i.2 w' ∧ (s.nums ((ns.take i.1).map Bool.toNat)).use ≤ s.use + 11 * i.1) (fun i => ns.length - i.1)
    (0, O) ⟨rfl, rfl, rfl, rfl, trivial⟩ ⟨Nat.zero_le _, hw, Fr.refl _ _, Nat.le_refl _⟩ ?_)
  rintro ⟨i, Oi⟩ wi ⟨hi, hwi, fi, hui⟩
  simp only at hi hwi fi hui ⊢
  refine W.seq (W.region (WL.binInt rfl rfl rfl rfl (WL.next (W.seq ?_))))
  refine W.cond rfl (fun ht => W.skip fun a ha => then_normal ?_) (fun hf => W.exit fun a ha => then_exit (then_exit (exit_here ?_)))
  · have hlt : i < ns.length := by simp at ht; omega
    obtain ⟨n, hn⟩ : ∃ n, ns[i]? = some n := ⟨_, List.getElem?_eq_getElem hlt⟩
    have hbi := fi.keep hb
    have hcell : wi.cell? ⟨b, 0 + i * 1, none⟩ = some (.bool n) := by rw [hbi.blk.cell]; simp [hn]
    refine (W.seq (W.block (W.seq (W.region (WL.indexAddr rfl rfl (indexSlice Tryz.underlying349 ty4 (by omega) (by omega)) rfl ?_))))) a ha
    rw [Int.toNat_natCast]
    refine WL.load rfl (load1 ty4 hcell) rfl (WL.assign rfl rfl (WL.next (W.seq (W.region (WL.assign rfl rfl (WL.next ?_))))))
    refine W.seqI (ι := Unit) (fun _ => [(0, ptr p), (6, .int .u64 (n.toNat : Nat)), (7, .slice (some ⟨b, 0, none⟩) ns.length ns.length), (8, .int .i64 ns.length), (9, .int .i64 i)]) (fun _ w' => w' = wi)
      (W.seq (W.region (WL.move rfl rfl (WL.next (W.cond rfl (fun ht => W.region (WL.assign rfl rfl (WL.nil fun a ha => then_normal ?_))) (fun hf => W.skip fun a ha => then_normal ?_)))))) ?_
    · exact ⟨(), ha.weak ⟨rfl, by rw [ht]; rfl, rfl, rfl, rfl, trivial⟩, rfl⟩
    · exact ⟨(), ha.weak ⟨rfl, by rw [hf]; rfl, rfl, rfl, rfl, trivial⟩, rfl⟩
    rintro _ _ rfl
    obtain ⟨vb, hvb, hrb, hput⟩ := hwi.put
    refine W.region (WL.move rfl rfl (WL.move rfl rfl (WL.nilCheck rfl rfl (WL.fieldAddr rfl (field185_0 _ _ _) rfl (WL.load rfl (load1 ty22 hvb) rfl (WL.move rfl rfl ?_))))))
    refine WL.call Tryz.call97 rfl rfl (c97 hrb (by cases n <;> decide) (by have := num_len10 (n := n.toNat) (by cases n <;> decide); simp only [WS.use] at *; omega)) ?_ (fun _ _ h => h.elim)
    rintro v' w1 ⟨r1, f1⟩
    obtain ⟨w2, O2, hst, f2, hw2⟩ := hput v' w1 _ f1 r1
    refine WL.nilCheck rfl rfl (WL.fieldAddr rfl (field185_0 _ _ _) rfl (WL.store rfl rfl hst (WL.nil fun a ha => block_normal (then_normal ((W.region (WL.binInt rfl rfl rfl rfl (WL.move rfl rfl (WL.nil fun a ha => then_normal ?_)))) a ha)))))
    have hsn : (s.nums ((ns.take i).map Bool.toNat)).num n.toNat = s.nums ((ns.take (i + 1)).map Bool.toNat) := by rw [take_snoc hn, List.map_append, ← WS.nums_snoc]; rfl
    refine ⟨(i + 1, O2), ha.weak ⟨rfl, rfl, rfl, ?_, trivial⟩, ⟨hlt, by rw [← hsn]; exact hw2, fi.trans f2, ?_⟩, by simp only; omega⟩
    · show some (Value.int .i64 (IntKind.i64.wrap ((i : Int) + 1))) = some (Value.int .i64 ((i + 1 : Nat) : Int))
      rw [wrap_i64 (by unfold isInt; simp only [WS.use] at *; omega)]; rfl
    · rw [← hsn]
      have := WS.num_use (s := s.nums ((ns.take i).map Bool.toNat)) (n := n.toNat) (by cases n <;> decide)
      simp only; omega
  · have hge : i = ns.length := by simp at hf; omega
    subst hge
    refine post_end0 rfl ha ⟨rfl, Oi, fi, ?_⟩
    rw [List.take_length] at hwi; exact hwi
end Go.Sx
