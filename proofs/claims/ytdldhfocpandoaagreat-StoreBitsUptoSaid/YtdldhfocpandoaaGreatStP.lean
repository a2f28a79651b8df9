import Derived.Test.YtdldhfocpandoaaGreatStO
import Derived.Test.YtdldhfocpandoaaGreatStH
import Derived.Test.YtdldhfocpandoaaGreatStC
namespace Go.Sx
open Go.Proofs
theorem run_refw {w : World} {i j : Int} : (Instr.build 173 #[(4, .int .i64 i), (5, .int .i64 j)]).run Tryz.prog w = .ok (.agg [.slice none 0 0, .slice none 0 0, .int .i64 0, .bool false, .int .i64 i, .int .i64 j].toArray) w := by
 simp [Instr.build, Tryz.zeroValue173, Tryz.runUnderlying173, Value.cells, Instr.fill, Tryz.sizeOf3]
theorem XSt.begin {w w' : World} {S : Nat → Prop} {most long p : Nat} (hp : Blk w' p [.slice none 0 0, .slice none 0 0, .int .i64 0, .bool false, .int .i64 most, .int .i64 long] 173) (h1 : w.heap.size ≤ p) (f : Fr (fun _ => False) w (fun _ => False) w') :
 XSt w S p most long (ws0, false) (fun b => b = p) w' := by
 refine ⟨fun b _ hl => ⟨fun h => by subst h; omega, f.blk b hl (fun h => h)⟩, ?_, f.size, ⟨.slice none 0 0, .slice none 0 0, hp, World.ownsRow_nil _ _ _ _, World.ownsRow_nil _ _ _ _, rfl, ?_, ?_⟩, by simp [ws0]⟩
 · rintro b rfl; exact hp.lt
 · intro k hk; simp [ownB, Value.ownBlock] at hk
 · intro k hk; simp [ownB, Value.ownBlock] at hk
theorem own_magic {w : World} : (w.alloc (.cells (magicB.map bv).toArray 5)).ownsRow 0 5 1 (.slice (some ⟨w.heap.size, 0, none⟩) 4 4) magicB.length (magicB.map bv) :=
 ⟨rfl, .inr ⟨w.heap.size, 4, (magicB.map bv).toArray, rfl, Nat.zero_le _, heap_alloc_new w _, Nat.le_refl _, by simp [maxLen], rfl, rfl⟩⟩
theorem XSt.rows {w0 w : World} {S : Nat → Prop} {p most long : Nat} {x : XW} {O : Nat → Prop} (h : XSt w0 S p most long x O w) : ∃ vb vt, w.cell? ⟨p, 0, none⟩ = some vb ∧ w.cell? ⟨p, 1, none⟩ = some vt ∧ w.cell? ⟨p, 3, none⟩ = some (.bool x.2) ∧ p < w.heap.size ∧
 w.ownsRow 0 5 1 vb x.1.b.length (x.1.b.map bv) ∧ w.ownsRow 0 9 1 vt x.1.tab.length (x.1.tab.map Value.string) := by
 obtain ⟨vb, vt, m⟩ := h.mem
 exact ⟨vb, vt, by rw [m.blk.cell]; rfl, by rw [m.blk.cell]; rfl, by rw [m.blk.cell]; rfl, m.blk.lt, m.rb, m.rt⟩
def runR (most long : Nat) (t : T) : XW := encR most long t (ws0, false)
theorem runR_some {most long : Nat} {t : T} {s : WS} (h : enc most long t ws0 = some s) : runR most long t = (s, false) := (encR_enc t ws0).1 s h
theorem runR_none {most long : Nat} {t : T} (h : enc most long t ws0 = none) : (runR most long t).2 = true := (encR_enc t ws0).2 h
theorem ref_run {w : World} {S : Nat → Prop} {t : T} {cs : List Value} {p most long : Nat} (hr : Rep w S t (.st .sheet) cs) (hu : 11 * t.wt ≤ 2 ^ 40) {w1 : World}
 (hp : Blk w1 p [.slice none 0 0, .slice none 0 0, .int .i64 0, .bool false, .int .i64 most, .int .i64 long] 173) (h1 : w.heap.size ≤ p) (f : Fr (fun _ => False) w (fun _ => False) w1) :
 Calls Tryz.prog 88 [ptr p, .agg cs.toArray].toArray w1 (End (fun v w' => v = .tuple #[] ∧ Fr (fun _ => False) w (fun _ => False) w' ∧ ∃ vb vt, w'.cell? ⟨p, 0, none⟩ = some vb ∧ w'.cell? ⟨p, 1, none⟩ = some vt ∧ w'.cell? ⟨p, 3, none⟩ = some (.bool (runR most long t).2) ∧ p < w'.heap.size ∧
  w'.ownsRow 0 5 1 vb (runR most long t).1.b.length ((runR most long t).1.b.map bv) ∧ w'.ownsRow 0 9 1 vt (runR most long t).1.tab.length ((runR most long t).1.tab.map Value.string) ∧ (∀ y ∈ (runR most long t).1.tab, y.size ≤ maxLen) ∧ (runR most long t).1.use ≤ 11 * t.wt) (fun _ _ => False)) := by
 have hx : XSt w S p most long (ws0, false) (fun b => b = p) w1 := XSt.begin hp h1 f
 have hu0 : (ws0, false).1.use + 11 * t.wt ≤ 2 ^ 40 := by simp only [ws0, WS.use, List.length_nil]; omega
 refine (xSheet hr hx hu0).mono ?_
 intro e w' he
 cases e with
 | returned v =>
  obtain ⟨rfl, O', fo, hs⟩ := he
  obtain ⟨vb, vt, a1, a2, a3, a4, a5, a6⟩ := hs.rows
  refine ⟨rfl, ?_, vb, vt, a1, a2, a3, a4, a5, a6, hs.tabs, ?_⟩
  · exact ⟨fo.os.trans f.os, fo.tape.trans f.tape, fo.output.trans f.output, Nat.le_trans f.size fo.size, fun b hb _ => by rw [fo.blk b (Nat.lt_of_lt_of_le hb f.size) (fun h => by omega), f.blk b hb (fun h => h)], fun _ h => h.elim⟩
  · have := (encR_use (most := most) (long := long) t (ws0, false) hu0).1
    simp only [ws0, WS.use, List.length_nil] at this ⊢
    unfold runR
    simp only [ws0]
    omega
 | panicked ch => exact he.elim
 | outgrown => exact he.elim
def fitsOf (t : T) : Bool := (bytesOf 4611686018427387904 67108864 t).isSome
set_option maxRecDepth 4000 in
theorem c45 {w : World} {S : Nat → Prop} {t : T} {cs : List Value} (hr : Rep w S t (.st .sheet) cs) (hu : 11 * t.wt ≤ 2 ^ 40) :
 Calls Tryz.prog 45 [.agg cs.toArray].toArray w (End (fun v w' => v = .bool (fitsOf t) ∧ Fr (fun _ => False) w (fun _ => False) w') (fun _ _ => False)) := by
 have hlen : cs.length = 10 := hr.st_inv.elim fun l h => h.2.1
 refine cW 22 Tryz.func45 rfl rfl rfl ?_
 refine W.sq (W.rg (WL.box rfl rfl ?_))
 have a1 : Blk (w.alloc (.cells cs.toArray 36)) w.heap.size cs 36 := Blk.alloc_new
 have f1 : Fr (fun _ => False) w (fun _ => False) (w.alloc (.cells cs.toArray 36)) := Fr.alloc _ _ _
 show WL _ _ _ _ _ _ _ (w.alloc (.cells cs.toArray 36))
 generalize w.alloc (.cells cs.toArray 36) = w1 at a1 f1 ⊢
 refine WL.an rfl rfl (WL.nx ?_)
 refine W.sq (W.rg (WL.build rfl run_refw rfl (WL.box rfl rfl (WL.an rfl rfl (WL.nx ?_)))))
 have a2 : Blk (w1.alloc (.cells [.slice none 0 0, .slice none 0 0, .int .i64 0, .bool false, .int .i64 (4611686018427387904 : Nat), .int .i64 (67108864 : Nat)].toArray 173)) w1.heap.size [.slice none 0 0, .slice none 0 0, .int .i64 0, .bool false, .int .i64 (4611686018427387904 : Nat), .int .i64 (67108864 : Nat)] 173 := Blk.alloc_new
 have f2 : Fr (fun _ => False) w1 (fun _ => False) (w1.alloc (.cells [.slice none 0 0, .slice none 0 0, .int .i64 0, .bool false, .int .i64 (4611686018427387904 : Nat), .int .i64 (67108864 : Nat)].toArray 173)) := Fr.alloc _ _ _
 show W _ _ _ _ _ _ (w1.alloc (.cells [.slice none 0 0, .slice none 0 0, .int .i64 0, .bool false, .int .i64 (4611686018427387904 : Nat), .int .i64 (67108864 : Nat)].toArray 173))
 generalize w1.alloc (.cells [.slice none 0 0, .slice none 0 0, .int .i64 0, .bool false, .int .i64 (4611686018427387904 : Nat), .int .i64 (67108864 : Nat)].toArray 173) = w2 at a2 f2 ⊢
 have a1' : Blk w2 w.heap.size cs 36 := (f2.blk _ a1.lt (fun h => h)).trans a1
 refine W.sq (W.rg (WL.mv rfl rfl (WL.ld rfl (loadN iy36 hlen a1'.all) rfl (WL.cl Tryz.call88 rfl rfl (ref_run (hr.fresh f1) hu a2 (Nat.le_refl _) f2) ?_ nop))))
 rintro _ w3 ⟨rfl, f3, vb, vt, hb, _, hd, _, rb, _, _, _⟩
 have F := f1.trans f3
 obtain ⟨g, cap, rfl, _⟩ := row_val rb
 refine WL.nx (W.sq (W.rg (WL.mv rfl rfl (WL.nc rfl rfl (WL.fa rfl (field173_3 _ _ _) rfl (WL.ld rfl (load1 ty4 hd) rfl (WL.not rfl rfl (WL.mv rfl rfl ?_))))))))
 unfold fitsOf bytesOf
 cases he : enc 4611686018427387904 67108864 t ws0 with
 | none =>
  have := runR_none he
  rw [this]
  refine WL.passed (j := 5) rfl rfl rfl rfl rfl (WL.passed (j := 5) rfl rfl rfl rfl rfl (WL.passed (j := 5) rfl rfl rfl rfl rfl (WL.passed (j := 5) rfl rfl rfl rfl rfl (WL.passed (j := 5) rfl rfl rfl rfl rfl (WL.passed (j := 5) rfl rfl rfl rfl rfl (WL.pick rfl rfl rfl (WL.an rfl rfl (WL.nx (W.ret fun a ha => pR rfl ha rfl ⟨rfl, F⟩)))))))))
 | some s =>
  have hrun := runR_some he
  rw [hrun] at hb rb ⊢
  simp only at hb rb ⊢
  refine WL.gd (j := 5) rfl rfl rfl (WL.mv rfl rfl (WL.gd (j := 5) rfl rfl rfl (WL.nc rfl rfl (WL.gd (j := 5) rfl rfl rfl (WL.fa rfl (field173_0 _ _ _) rfl ?_)))))
  refine WL.gd (j := 5) rfl rfl rfl (WL.ld rfl (load1 ty22 hb) rfl (WL.gd (j := 5) rfl rfl rfl (WL.len rfl (lS Tryz.underlying22) rfl (WL.gd (j := 5) rfl rfl rfl (WL.bi rfl rfl (run_leq (c := decide (s.b.length ≤ 67108864)) (decide_eq_decide.2 (by omega))) rfl ?_)))))
  refine WL.pick rfl rfl rfl (WL.an rfl rfl (WL.nx (W.ret fun a ha => pR rfl ha rfl ⟨?_, F⟩)))
  simp only [Option.bind_some]
  by_cases hl : 67108864 < s.b.length
  · rw [if_pos hl, decide_eq_false (by omega)]; rfl
  · rw [if_neg hl, decide_eq_true (by omega)]; rfl
end Go.Sx
namespace Go.Sx
open Go.Proofs
theorem app_len {a b c : List UInt8} {n : Nat} (h1 : a.length ≤ n) (h2 : b.length ≤ n) (h3 : c.length ≤ n) (hn : n ≤ 2 ^ 43) : (a ++ b).length + c.length ≤ 2 ^ 46 := by rw [List.length_append]; omega
set_option maxRecDepth 4000 in
set_option maxHeartbeats 1000000 in
theorem c35 {w : World} {S : Nat → Prop} {t : T} {cs : List Value} (hr : Rep w S t (.st .sheet) cs) (hu : 11 * t.wt ≤ 2 ^ 40) :
 Calls Tryz.prog 35 [.agg cs.toArray].toArray w (End (ERes w (encodeOf t)) (fun _ _ => False)) := by
 have hlen : cs.length = 10 := hr.st_inv.elim fun l h => h.2.1
 refine cW 74 Tryz.func35 rfl rfl rfl ?_
 refine W.sq (W.rg (WL.box rfl rfl ?_))
 have a1 : Blk (w.alloc (.cells cs.toArray 36)) w.heap.size cs 36 := Blk.alloc_new
 have f1 : Fr (fun _ => False) w (fun _ => False) (w.alloc (.cells cs.toArray 36)) := Fr.alloc _ _ _
 show WL _ _ _ _ _ _ _ (w.alloc (.cells cs.toArray 36))
 generalize w.alloc (.cells cs.toArray 36) = w1 at a1 f1 ⊢
 refine WL.an rfl rfl (WL.an rfl rfl (WL.nx ?_))
 refine W.sq (W.rg (WL.build rfl run_refw rfl (WL.box rfl rfl (WL.an rfl rfl (WL.nx ?_)))))
 have a2 : Blk (w1.alloc (.cells [.slice none 0 0, .slice none 0 0, .int .i64 0, .bool false, .int .i64 (1000 : Nat), .int .i64 (16777216 : Nat)].toArray 173)) w1.heap.size [.slice none 0 0, .slice none 0 0, .int .i64 0, .bool false, .int .i64 (1000 : Nat), .int .i64 (16777216 : Nat)] 173 := Blk.alloc_new
 have f2 : Fr (fun _ => False) w1 (fun _ => False) (w1.alloc (.cells [.slice none 0 0, .slice none 0 0, .int .i64 0, .bool false, .int .i64 (1000 : Nat), .int .i64 (16777216 : Nat)].toArray 173)) := Fr.alloc _ _ _
 show W _ _ _ _ _ _ (w1.alloc (.cells [.slice none 0 0, .slice none 0 0, .int .i64 0, .bool false, .int .i64 (1000 : Nat), .int .i64 (16777216 : Nat)].toArray 173))
 generalize w1.alloc (.cells [.slice none 0 0, .slice none 0 0, .int .i64 0, .bool false, .int .i64 (1000 : Nat), .int .i64 (16777216 : Nat)].toArray 173) = w2 at a2 f2 ⊢
 have a1' : Blk w2 w.heap.size cs 36 := (f2.blk _ a1.lt (fun h => h)).trans a1
 refine W.sq (W.rg (WL.mv rfl rfl (WL.ld rfl (loadN iy36 hlen a1'.all) rfl (WL.cl Tryz.call88 rfl rfl (ref_run (hr.fresh f1) hu a2 (Nat.le_refl _) f2) ?_ nop))))
 rintro _ w3 ⟨rfl, f3, vb, vt, hb, ht, hd, hpl, rb, rt, htabs, huse⟩
 have F := f1.trans f3
 generalize w1.heap.size = p at hb ht hd hpl ⊢
 obtain ⟨g, cap, rfl, _⟩ := row_val rb
 obtain ⟨gt, capt, rfl, hget⟩ := row_val rt
 refine WL.nx (W.weak [(4, ptr p)] ⟨rfl, trivial⟩ ?_)
 refine W.sq (W.sq (W.rg (WL.mv rfl rfl (WL.nc rfl rfl (WL.fa rfl (field173_3 _ _ _) rfl (WL.ld rfl (load1 ty4 hd) rfl (WL.mv rfl rfl ?_)))))))
 unfold encodeOf bytesOf
 cases he : enc 1000 16777216 t ws0 with
 | none =>
  have := runR_none he
  rw [this]
  refine WL.passed (j := 4) rfl rfl rfl rfl rfl (WL.passed (j := 4) rfl rfl rfl rfl rfl (WL.passed (j := 4) rfl rfl rfl rfl rfl (WL.passed (j := 4) rfl rfl rfl rfl rfl (WL.passed (j := 4) rfl rfl rfl rfl rfl (WL.passed (j := 4) rfl rfl rfl rfl rfl (WL.pick rfl rfl rfl (WL.nx (W.ct rfl ?_))))))))
  refine W.sq (W.rg (WL.an rfl rfl (WL.an rfl rfl (WL.nx (W.ret fun a ha => tR (post_ret2 rfl ha rfl rfl ⟨.slice none 0 0, ?_, rfl, rfl⟩))))))
  rw [own_nil]; exact F
 | some s =>
  have hrun := runR_some he
  rw [hrun] at hb ht rb rt hget htabs huse ⊢
  simp only [] at hb ht rb rt hget htabs huse ⊢
  refine WL.gd (j := 4) rfl rfl rfl (WL.mv rfl rfl (WL.gd (j := 4) rfl rfl rfl (WL.nc rfl rfl (WL.gd (j := 4) rfl rfl rfl (WL.fa rfl (field173_0 _ _ _) rfl ?_)))))
  refine WL.gd (j := 4) rfl rfl rfl (WL.ld rfl (load1 ty22 hb) rfl (WL.gd (j := 4) rfl rfl rfl (WL.len rfl (lS Tryz.underlying22) rfl (WL.gd (j := 4) rfl rfl rfl (WL.bi rfl rfl (run_gtr (c := decide (16777216 < s.b.length)) (decide_eq_decide.2 (by omega))) rfl ?_)))))
  refine WL.pick rfl rfl rfl (WL.nx (W.cond rfl (fun h => ?_) (fun h => W.skip fun a ha => tN ?_)))
  · have hl : 16777216 < s.b.length := of_decide_eq_true h
    refine W.sq (W.rg (WL.an rfl rfl (WL.an rfl rfl (WL.nx (W.ret fun a ha => tR (post_ret2 rfl ha rfl rfl ⟨.slice none 0 0, ?_, ?_⟩))))))
    · rw [own_nil]; exact F
    · simp only [Option.bind_some]; rw [if_pos hl]; refine ⟨?_, ?_⟩ <;> first | rfl | trivial
  · have hl : ¬ 16777216 < s.b.length := of_decide_eq_false h
    have htz := enc_tsz t _ _ he
    have htz0 : tsz ws0.tab = 0 := rfl
    have hel := entries_len s.tab htabs
    simp only [WS.use] at huse
    have hnl := num_len10 (n := s.tab.length) (by omega)
    have hee : (entries s.tab).length ≤ 2 ^ 44 := by omega
    have htl : s.tab.length ≤ 2 ^ 40 := by omega
    have hml : magicB.length = 4 := rfl
    -- the beginning
    refine W.run ha (W.sq (W.rg (WL.buildSlice rfl lit_magic rfl ?_)))
    have r4 : (w3.alloc (.cells (magicB.map bv).toArray 5)).ownsRow 0 5 1 (.slice (some ⟨w3.heap.size, 0, none⟩) 4 4) magicB.length (magicB.map bv) := own_magic
    have f4 : Fr (fun _ => False) w3 (ownB (.slice (some ⟨w3.heap.size, 0, none⟩) 4 4)) (w3.alloc (.cells (magicB.map bv).toArray 5)) :=
     ⟨rfl, rfl, rfl, by simp, fun b hb _ => heap_alloc_old w3 _ b hb, fun b hb => .inr (Nat.le_of_eq (own_at hb))⟩
    generalize w3.alloc (.cells (magicB.map bv).toArray 5) = w4 at r4 f4 ⊢
    generalize Value.slice (some ⟨w3.heap.size, 0, none⟩) 4 4 = v4 at r4 f4 ⊢
    have cellT : ∀ {w' : World} {U : Nat → Prop}, Fr (fun _ => False) w3 U w' → w'.cell? ⟨p, 1, none⟩ = some (.slice gt s.tab.length capt) := fun f => by rw [World.cell?_of_block (w := w3) (f.blk p hpl (fun h => h))]; exact ht
    have cellB : ∀ {w' : World} {U : Nat → Prop}, Fr (fun _ => False) w3 U w' → w'.cell? ⟨p, 0, none⟩ = some (.slice g s.b.length cap) := fun f => by rw [World.cell?_of_block (w := w3) (f.blk p hpl (fun h => h))]; exact hb
    refine WL.mv rfl rfl (WL.nc rfl rfl (WL.fa rfl (field173_1 _ _ _) rfl (WL.ld rfl (load1 iy44 (cellT f4)) rfl (WL.len rfl (lS Tryz.underlying44) rfl (WL.convert rfl (conv_3_164 (by omega) (by omega)) rfl ?_)))))
    refine WL.cl Tryz.call89 rfl rfl (c89 _ _ (Nat.le_refl _) (by omega)) ?_ nop
    rintro v5 w5 ⟨r5, f5⟩
    have r4' := ownsRow_agree r4 (fun b hb => f5.blk b (ownsRow_own_lt r4 hb) (fun h => h))
    obtain ⟨v6, w6, hr6, r6, f6⟩ := append_bytes (ty := 22) r4' (Bts.of_row r5).src (by omega)
    have F6 : Fr (fun _ => False) w3 (ownB v6) w6 := (f4.trans (f5.drop (fun _ h => h.elim))).trans f6
    refine WL.append rfl rfl hr6 rfl (WL.an rfl rfl (WL.kp [(4, ptr p), (5, v6)] ⟨rfl, rfl, trivial⟩ ?_))
    -- the strings
    refine W.sq (W.sq (W.rg (WL.an rfl rfl (WL.nx ?_))))
    refine W.bk (W.loop (ι := Nat × Value × World) (fun i => [(4, ptr p), (5, i.2.1), (6, .int .i64 (i.1 : Int))])
     (fun i w' => w' = i.2.2 ∧ i.1 ≤ s.tab.length ∧ Fr (fun _ => False) w3 (ownB i.2.1) w' ∧ w'.ownsRow 0 5 1 i.2.1 (magicB ++ num s.tab.length ++ entries (s.tab.take i.1)).length ((magicB ++ num s.tab.length ++ entries (s.tab.take i.1)).map bv)) (fun i => s.tab.length - i.1)
     (0, v6, w6) ⟨rfl, rfl, rfl, trivial⟩ ⟨rfl, Nat.zero_le _, F6, by simpa [entries] using r6⟩ ?_)
    clear F6 r6 f6 hr6 r4' r5 f5
    rintro ⟨i, v7, _⟩ w7 ⟨rfl, hi, F7, r7⟩
    simp only at hi F7 r7 ⊢
    have het := entries_take s.tab i
    refine W.sq (W.sq (W.rg (WL.mv rfl rfl (WL.mv rfl rfl (WL.nc rfl rfl (WL.fa rfl (field173_1 _ _ _) rfl (WL.ld rfl (load1 iy44 (cellT F7)) rfl ?_)))))))
    refine WL.len rfl (lS Tryz.underlying44) rfl (WL.bi rfl rfl (run_lss (c := decide (i < s.tab.length)) (decide_eq_decide.2 (by omega))) rfl (WL.nx (W.cond rfl (fun ht => W.skip fun a ha => tN ?_) (fun hf => W.exit fun a ha => tE (tE (eH (tN ?_)))))))
    · have hlt : i < s.tab.length := of_decide_eq_true ht
      have hti : s.tab[i]? = some s.tab[i] := List.getElem?_eq_getElem hlt
      have hys := htabs _ (List.getElem_mem hlt)
      obtain ⟨b, hgb, hcell, hob⟩ := hget i (.string s.tab[i]) (by rw [List.getElem?_map, hti]; rfl)
      subst hgb
      have hbl : b < w3.heap.size := ownsRow_own_lt rt hob
      have cellS : ∀ {w' : World} {U : Nat → Prop}, Fr (fun _ => False) w3 U w' → w'.cell? ⟨b, 0 + (i : Int).toNat * 1, none⟩ = some (.string s.tab[i]) := fun f => by
       rw [World.cell?_of_block (w := w3) (f.blk b hbl (fun h => h))]; simpa using hcell
      have hidx : ∀ w, (Instr.indexAt 44 (.slice (some ⟨b, 0, none⟩) s.tab.length capt) (.int .i64 (i : Int))).run Tryz.prog w = .ok (.pointer (some ⟨b, 0 + (i : Int).toNat * 1, none⟩)) w := fun w =>
       indexSlice Tryz.underlying44 ty9 (by omega) (by omega)
      have hsz : s.tab[i].size ≤ 2 ^ 41 := by
       have := tsz_mem (List.getElem_mem hlt); omega
      have htak := entries_take_succ hti
      have het1 := entries_take s.tab (i + 1)
      have hel1 : (entries (s.tab.take (i + 1))).length = (entries (s.tab.take i)).length + (entry s.tab[i]).length := by rw [htak, List.length_append]
      have hey : (entry s.tab[i]).length = (num s.tab[i].size).length + s.tab[i].size := by unfold entry; rw [List.length_append, Array.length_toList]; rfl
      refine W.run ha (W.sq (W.bk ?_))
      refine W.sq (W.rg (WL.mv rfl rfl (WL.mv rfl rfl (WL.nc rfl rfl (WL.fa rfl (field173_1 _ _ _) rfl (WL.ld rfl (load1 iy44 (cellT F7)) rfl (WL.mv rfl rfl (WL.ix rfl rfl (hidx _) rfl (WL.ld rfl (load1 ty9 (cellS F7)) rfl (WL.len rfl (len_string Tryz.underlying9) rfl (WL.convert rfl (conv_3_164 (by omega) (by omega)) rfl ?_)))))))))))
      refine WL.cl Tryz.call89 rfl rfl (c89 _ _ (Nat.le_refl _) (by omega)) ?_ nop
      rintro v8 w8 ⟨r8, f8⟩
      have r7' := ownsRow_agree r7 (fun b hb => f8.blk b (ownsRow_own_lt r7 hb) (fun h => h))
      obtain ⟨v9, w9, hr9, r9, f9⟩ := append_bytes (ty := 22) r7' (Bts.of_row r8).src (by rw [List.length_append, List.length_append]; omega)
      have F9 : Fr (fun _ => False) w3 (ownB v9) w9 := (F7.trans (f8.drop (fun _ h => h.elim))).trans f9
      refine WL.append rfl rfl hr9 rfl (WL.an rfl rfl (WL.nx ?_))
      refine W.rg (WL.mv rfl rfl (WL.mv rfl rfl (WL.nc rfl rfl (WL.fa rfl (field173_1 _ _ _) rfl (WL.ld rfl (load1 iy44 (cellT F9)) rfl (WL.mv rfl rfl (WL.ix rfl rfl (hidx _) rfl (WL.ld rfl (load1 ty9 (cellS F9)) rfl ?_))))))))
      obtain ⟨v10, w10, hr10, r10, f10⟩ := append_bytes (ty := 22) (ys := s.tab[i].data.toList) r9 (Src.ofString _ Tryz.underlying9 s.tab[i]) (by
       have : s.tab[i].data.toList.length = s.tab[i].size := Array.length_toList
       rw [List.length_append, List.length_append, List.length_append]; omega)
      refine WL.append rfl rfl hr10 rfl (WL.an rfl rfl (WL.nil fun a ha => bN (tN ?_)))
      refine W.run ha (W.rg (WL.mv rfl rfl (WL.bi rfl rfl rfl rfl (WL.an rfl rfl (WL.nil fun a ha => tN ?_)))))
      refine ⟨(i + 1, v10, w10), ha.weak ⟨rfl, rfl, congrArg some (inc_i64 (by omega)), trivial⟩, ⟨rfl, hlt, F9.trans f10, ?_⟩, Nat.sub_lt_sub_left hlt (Nat.lt_succ_self i)⟩
      simp only
      rw [htak]
      have e : magicB ++ num s.tab.length ++ entries (s.tab.take i) ++ num s.tab[i].size ++ s.tab[i].data.toList = magicB ++ num s.tab.length ++ (entries (s.tab.take i) ++ entry s.tab[i]) := by unfold entry; simp only [List.append_assoc]
      rw [← e]; exact r10
    · have hend : i = s.tab.length := Nat.le_antisymm hi (Nat.le_of_not_lt (of_decide_eq_false hf))
      subst hend
      rw [List.take_length] at r7
      have rb7 : w7.ownsRow 0 5 1 (.slice g s.b.length cap) s.b.length (s.b.map bv) := ownsRow_agree rb (fun b hb => F7.blk b (ownsRow_own_lt rb hb) (fun h => h))
      obtain ⟨v8, w8, hr8, r8, f8⟩ := append_bytes (ty := 22) r7 (Bts.of_row rb7).src (by rw [List.length_append, List.length_append]; omega)
      refine W.run ha (W.sq (W.rg (WL.mv rfl rfl (WL.mv rfl rfl (WL.nc rfl rfl (WL.fa rfl (field173_0 _ _ _) rfl (WL.ld rfl (load1 ty22 (cellB F7)) rfl (WL.append rfl rfl hr8 rfl ?_))))))))
      refine WL.cl Tryz.call14 rfl rfl (c14 (Bts.of_row r8) (by rw [List.length_append, List.length_append, List.length_append]; omega)) ?_ nop
      rintro v9 w9 ⟨r9, f9⟩
      have hsl := sealed_len (magicB ++ num s.tab.length ++ entries s.tab ++ s.b)
      obtain ⟨g9, c9, rfl, _⟩ := row_val r9
      have F9 : Fr (fun _ => False) w (ownB (.slice g9 (sealed (magicB ++ num s.tab.length ++ entries s.tab ++ s.b)).length c9)) w9 := (F.trans (F7.trans f8).none).fresh_trans f9
      refine WL.an rfl rfl (WL.nx ?_)
      refine W.sq (W.sq (W.rg (WL.mv rfl rfl (WL.len rfl (lS Tryz.underlying22) rfl (WL.bi rfl rfl (run_gtr (c := decide (16777216 < (fullOf s).length)) (decide_eq_decide.2 (by unfold fullOf; omega))) rfl (WL.nx ?_))))))
      refine W.cond rfl (fun h => ?_) (fun h => W.skip fun a ha => tN ?_)
      · have hl2 : 16777216 < (fullOf s).length := of_decide_eq_true h
        refine W.sq (W.rg (WL.an rfl rfl (WL.an rfl rfl (WL.nx (W.ret fun a ha => tR (post_ret2 rfl ha rfl rfl ⟨.slice none 0 0, ?_, ?_⟩))))))
        · rw [own_nil]; exact F9.none
        · simp only [Option.bind_some]; rw [if_neg hl]; simp only [Option.bind_some]; rw [if_pos hl2]; refine ⟨?_, ?_⟩ <;> first | rfl | trivial
      · have hl2 : ¬ 16777216 < (fullOf s).length := of_decide_eq_false h
        refine W.run ha (W.sq (W.rg (WL.mv rfl rfl (WL.an rfl rfl (WL.an rfl rfl (WL.nx (W.ret fun a ha => post_ret2 rfl ha rfl rfl ⟨_, F9, ?_⟩)))))))
        simp only [Option.bind_some]; rw [if_neg hl]; simp only [Option.bind_some]; rw [if_neg hl2]
        refine ⟨?_, ?_⟩ <;> first | rfl | trivial | exact r9
end Go.Sx
namespace Go.Sx
def skipEnv (ops : Array Oper) (n : Nat) : List Oper → Env → Option Env
 | [], m => some m
 | ⟨some d, _op, _, _, _, some (j, want)⟩ :: r, m =>
  match (ops[j]?).bind (·.dst), Nat.blt d n with
  | some dj, true =>
   match m.get dj with
   | some v => match isWant v want with
    | false => skipEnv ops n r ((d, undef) :: m)
    | true => none
   | none => none
  | _, _ => none
 | ⟨some d, .move x, _, _, _, none⟩ :: r, m =>
  match ev m x, Nat.blt d n with
  | some v, true => skipEnv ops n r ((d, v) :: m)
  | _, _ => none
 | ⟨some d, .assign x, _, _, _, none⟩ :: r, m =>
  match ev m x, Nat.blt d n with
  | some v, true => skipEnv ops n r ((d, v) :: m)
  | _, _ => none
 | ⟨some d, .pick c x y, _, _, _, none⟩ :: r, m =>
  match ev m c, Nat.blt d n with
  | some (.bool true), true => match ev m x with
   | some v => skipEnv ops n r ((d, v) :: m)
   | none => none
  | some (.bool false), true => match ev m y with
   | some v => skipEnv ops n r ((d, v) :: m)
   | none => none
  | _, _ => none
 | _, _ => none
section
variable {P : Program} {ops : Array Oper} {n : Nat} {ds : List Deferred} {w : World}
theorem WL.skip {Q : Exit → Act → World → Prop} : ∀ (rest : List Oper) (m m' : Env), skipEnv ops n rest m = some m' → WL P ops Q [] n ds m' w → WL P ops Q rest n ds m w := by
 intro rest
 induction rest with
 | nil => intro m m' h k; simp only [skipEnv, Option.some.injEq] at h; subst h; exact k
 | cons o r ih =>
  intro m m' h k
  unfold skipEnv at h
  split at h
  · rename_i heq; cases heq
  · rename_i heq
    cases heq
    split at h
    · rename_i dj hj hb
      split at h
      · rename_i v hv
        split at h
        · rename_i hw
          obtain ⟨o', ho', hd'⟩ := Option.bind_eq_some_iff.1 hj
          exact WL.passed ho' hd' hv hw hb (ih _ _ h k)
        · cases h
      · cases h
    · cases h
  · rename_i heq
    cases heq
    split at h
    · rename_i hx hb; exact WL.mv hx hb (ih _ _ h k)
    · cases h
  · rename_i heq
    cases heq
    split at h
    · rename_i hx hb; exact WL.an hx hb (ih _ _ h k)
    · cases h
  · rename_i heq
    cases heq
    split at h
    · rename_i hc hb
      split at h
      · rename_i hx; exact WL.pick hc hx hb (ih _ _ h k)
      · cases h
    · rename_i hc hb
      split at h
      · rename_i hx; exact WL.pick hc hx hb (ih _ _ h k)
      · cases h
    · cases h
  · cases h
theorem QL.skip {C : World → Prop} {Q : Act → Prop} : ∀ (rest : List Oper) (m m' : Env), skipEnv ops n rest m = some m' → QL P ops C Q [] n ds m' → QL P ops C Q rest n ds m := by
 intro rest
 induction rest with
 | nil => intro m m' h k; simp only [skipEnv, Option.some.injEq] at h; subst h; exact k
 | cons o r ih =>
  intro m m' h k
  unfold skipEnv at h
  split at h
  · rename_i heq; cases heq
  · rename_i heq
    cases heq
    split at h
    · rename_i dj hj hb
      split at h
      · rename_i v hv
        split at h
        · rename_i hw
          obtain ⟨o', ho', hd'⟩ := Option.bind_eq_some_iff.1 hj
          exact QL.passed ho' hd' hv hw hb (ih _ _ h k)
        · cases h
      · cases h
    · cases h
  · rename_i heq
    cases heq
    split at h
    · rename_i hx hb; exact QL.move hx hb (ih _ _ h k)
    · cases h
  · rename_i heq
    cases heq
    split at h
    · rename_i hx hb; exact QL.assign hx hb (ih _ _ h k)
    · cases h
  · rename_i heq
    cases heq
    split at h
    · rename_i hc hb
      split at h
      · rename_i hx; exact QL.pick hc hx hb (ih _ _ h k)
      · cases h
    · rename_i hc hb
      split at h
      · rename_i hx; exact QL.pick hc hx hb (ih _ _ h k)
      · cases h
    · cases h
  · cases h
end
end Go.Sx
namespace Go.Sx
open Go.Proofs
theorem guard_agg {w : World} {op : BinOp} {t : TypeId} {x y : Operand} {a b : Array Value} (h : Tryz.prog.eqGuardType Tryz.prog.depth t = false) : (eqGuard op t x y (.agg a) (.agg b)).run Tryz.prog w = .ok () w := by
 unfold eqGuard
 cases op <;> simp [h]
theorem eg59 : Tryz.prog.eqGuardType Tryz.prog.depth 59 = false := by kernel_rfl
theorem eg61 : Tryz.prog.eqGuardType Tryz.prog.depth 61 = false := by kernel_rfl
theorem eg63 : Tryz.prog.eqGuardType Tryz.prog.depth 63 = false := by kernel_rfl
theorem eg170 : Tryz.prog.eqGuardType Tryz.prog.depth 170 = false := by kernel_rfl
theorem si59 : Tryz.prog.stoodInHeld 59 = false := by kernel_rfl
theorem si61 : Tryz.prog.stoodInHeld 61 = false := by kernel_rfl
theorem si63 : Tryz.prog.stoodInHeld 63 = false := by kernel_rfl
theorem si170 : Tryz.prog.stoodInHeld 170 = false := by kernel_rfl
theorem eq_int {w : World} {d : Nat} {a b : Int} : (Op.equalIn (d + 1) 3 (.int .i64 a) (.int .i64 b)).run Tryz.prog w = .ok (a == b) w := by
 simp [Op.equalIn, Tryz.runUnderlying3]
theorem eq_bool {w : World} {d : Nat} {a b : Bool} : (Op.equalIn (d + 1) 4 (.bool a) (.bool b)).run Tryz.prog w = .ok (a == b) w := by
 simp [Op.equalIn, Tryz.runUnderlying4]
theorem beq_str {a b : ByteArray} : (a == b) = decide (a = b) := by
 cases a with | mk x =>
 cases b with | mk y =>
 have h : (ByteArray.mk x == ByteArray.mk y) = (x == y) := rfl
 rw [h]
 by_cases hxy : x = y
 · subst hxy; simp
 · simp [hxy]
theorem eq_str {w : World} {d : Nat} {a b : ByteArray} : (Op.equalIn (d + 1) 9 (.string a) (.string b)).run Tryz.prog w = .ok (decide (a = b)) w := by
 rw [← beq_str]
 simp [Op.equalIn, Tryz.runUnderlying9]
theorem part3 {w : World} {xs : Array Value} {i : Nat} {v : Value} (h : xs[i]? = some v) : (part 3 xs i).run Tryz.prog w = .ok v w := by
 simp [part, Tryz.isAgg3, h]
theorem part9 {w : World} {xs : Array Value} {i : Nat} {v : Value} (h : xs[i]? = some v) : (part 9 xs i).run Tryz.prog w = .ok v w := by
 simp [part, Tryz.isAgg9, h]
theorem eq_is {w : World} {d : Nat} {t : TypeId} (ht : t = 59 ∨ t = 61 ∨ t = 170) {a b : Int} {s r : ByteArray} : (Op.equalIn (d + 2) t (.agg #[.int .i64 a, .string s]) (.agg #[.int .i64 b, .string r])).run Tryz.prog w = .ok (decide (a = b) && decide (s = r)) w := by
 have p1 : ∀ (x : Int) (y : ByteArray) (w : World), (part 3 #[.int .i64 x, .string y] 0).run Tryz.prog w = .ok (.int .i64 x) w := fun x y w => part3 rfl
 have p2 : ∀ (x : Int) (y : ByteArray) (w : World), (part 9 #[.int .i64 x, .string y] 1).run Tryz.prog w = .ok (.string y) w := fun x y w => part9 rfl
 rcases ht with rfl | rfl | rfl
 · rw [show d + 2 = (d + 1) + 1 from rfl]
   unfold Op.equalIn
   by_cases h1 : a = b <;> by_cases h2 : s = r <;> simp [Tryz.runUnderlying59, p1, p2, eq_int, eq_str, h1, h2]
 · rw [show d + 2 = (d + 1) + 1 from rfl]
   unfold Op.equalIn
   by_cases h1 : a = b <;> by_cases h2 : s = r <;> simp [Tryz.runUnderlying61, p1, p2, eq_int, eq_str, h1, h2]
 · rw [show d + 2 = (d + 1) + 1 from rfl]
   unfold Op.equalIn
   by_cases h1 : a = b <;> by_cases h2 : s = r <;> simp [Tryz.runUnderlying170, p1, p2, eq_int, eq_str, h1, h2]
set_option maxHeartbeats 2000000 in
theorem eq_type {w : World} {d : Nat} {a b c e i j : Int} {s r o q : ByteArray} :
 (Op.equalIn (d + 3) 63 (.agg #[.int .i64 a, .int .i64 c, .int .i64 i, .string s, .string o]) (.agg #[.int .i64 b, .int .i64 e, .int .i64 j, .string r, .string q])).run Tryz.prog w =
  .ok (decide (a = b) && decide (c = e) && (decide (i = j) && decide (s = r)) && decide (o = q)) w := by
 have p1 : ∀ (x y z : Int) (u v : ByteArray) (w : World), (part 3 #[.int .i64 x, .int .i64 y, .int .i64 z, .string u, .string v] 0).run Tryz.prog w = .ok (.int .i64 x) w := fun x y z u v w => part3 rfl
 have p2 : ∀ (x y z : Int) (u v : ByteArray) (w : World), (part 3 #[.int .i64 x, .int .i64 y, .int .i64 z, .string u, .string v] 1).run Tryz.prog w = .ok (.int .i64 y) w := fun x y z u v w => part3 rfl
 have p3 : ∀ (x y z : Int) (u v : ByteArray) (w : World), (part 61 #[.int .i64 x, .int .i64 y, .int .i64 z, .string u, .string v] 2).run Tryz.prog w = .ok (.agg #[.int .i64 z, .string u]) w := fun x y z u v w => by
  simp [part, Tryz.isAgg61, Tryz.sizeOf61]
 have p4 : ∀ (x y z : Int) (u v : ByteArray) (w : World), (part 9 #[.int .i64 x, .int .i64 y, .int .i64 z, .string u, .string v] 4).run Tryz.prog w = .ok (.string v) w := fun x y z u v w => part9 rfl
 rw [show d + 3 = (d + 2) + 1 from rfl]
 unfold Op.equalIn
 by_cases h1 : a = b <;> by_cases h2 : c = e <;> by_cases h3 : i = j <;> by_cases h4 : s = r <;> by_cases h5 : o = q <;>
  simp [Tryz.runUnderlying63, p1, p2, p3, p4, eq_int, eq_str, eq_is (t := 61) (.inr (.inl rfl)), h1, h2, h3, h4, h5]
theorem neq_of_equal {w : World} {t : TypeId} {a b : Array Value} {c : Bool} (h : (Op.equal t (.agg a) (.agg b)).run Tryz.prog w = .ok c w) : (binOp .neq t (.agg a) (.agg b)).run Tryz.prog w = .ok (.bool (!c)) w := by
 have h1 : binOp .neq t (.agg a) (.agg b) = (do pure (.bool (!(← Op.equal t (.agg a) (.agg b))))) := rfl
 rw [h1]
 simp only [Sem.run_bind, h, Result.andThen_ok, Sem.run_pure]
noncomputable def teq (t u : T) : Bool := @decide (t = u) (Classical.propDecidable _)
theorem teq_true {t u : T} (h : t = u) : teq t u = true := @decide_eq_true _ (Classical.propDecidable _) h
theorem teq_false {t u : T} (h : t ≠ u) : teq t u = false := @decide_eq_false _ (Classical.propDecidable _) h
theorem teq_of {t u : T} {c : Bool} (h : t = u ↔ c = true) : teq t u = c := by
 cases c with
 | true => exact teq_true (h.2 rfl)
 | false => exact teq_false (fun e => by have := h.1 e; cases this)
theorem teq_eq {t u : T} (h : teq t u = true) : t = u := @of_decide_eq_true _ (Classical.propDecidable _) h
theorem teq_ne {t u : T} (h : teq t u = false) : t ≠ u := @of_decide_eq_false _ (Classical.propDecidable _) h
structure Neq (tid : TypeId) (f : Ty) : Prop where
 guard : ∀ {w0 : World} {S : Nat → Prop} {t u : T} {cs ds : List Value}, Rep w0 S t f cs → Rep w0 S u f ds → ∀ (x y : Operand) (w : World), (eqGuard .neq tid x y (valOf f cs) (valOf f ds)).run Tryz.prog w = .ok () w
 run : ∀ {w0 : World} {S : Nat → Prop} {t u : T} {cs ds : List Value}, Rep w0 S t f cs → Rep w0 S u f ds → ∀ (w : World), (binOp .neq tid (valOf f cs) (valOf f ds)).run Tryz.prog w = .ok (.bool (!teq t u)) w
theorem neq3 : Neq 3 .int := by
 refine ⟨fun h k x y w => ?_, fun h k w => ?_⟩
 · obtain ⟨n, rfl, rfl, _⟩ := h.int_inv
   obtain ⟨m, rfl, rfl, _⟩ := k.int_inv
   unfold eqGuard; rfl
 · obtain ⟨n, rfl, rfl, _⟩ := h.int_inv
   obtain ⟨m, rfl, rfl, _⟩ := k.int_inv
   rw [teq_of (c := decide (n = m)) (by simp)]
   exact run_neq rfl
theorem neq4 : Neq 4 .bool := by
 refine ⟨fun h k x y w => ?_, fun h k w => ?_⟩
 · obtain ⟨n, rfl, rfl⟩ := h.bool_inv
   obtain ⟨m, rfl, rfl⟩ := k.bool_inv
   unfold eqGuard; rfl
 · obtain ⟨n, rfl, rfl⟩ := h.bool_inv
   obtain ⟨m, rfl, rfl⟩ := k.bool_inv
   rw [teq_of (c := (n == m)) (by simp)]
   have h1 : binOp .neq 4 (.bool n) (.bool m) = (do pure (.bool (!(← Op.equal 4 (.bool n) (.bool m))))) := rfl
   have h2 : (Op.equal 4 (.bool n) (.bool m)).run Tryz.prog w = .ok (n == m) w := eq_bool (d := 9999)
   show (binOp .neq 4 (.bool n) (.bool m)).run Tryz.prog w = _
   rw [h1]
   simp only [Sem.run_bind, h2, Result.andThen_ok, Sem.run_pure]
set_option maxRecDepth 100000 in
theorem neq9 : Neq 9 .str := by
 refine ⟨fun h k x y w => ?_, fun h k w => ?_⟩
 · obtain ⟨n, rfl, rfl, _⟩ := h.str_inv
   obtain ⟨m, rfl, rfl, _⟩ := k.str_inv
   unfold eqGuard; rfl
 · obtain ⟨n, rfl, rfl, _⟩ := h.str_inv
   obtain ⟨m, rfl, rfl, _⟩ := k.str_inv
   rw [teq_of (c := decide (n = m)) (by simp)]
   exact run_neq_str
theorem is_inv {w : World} {S : Nat → Prop} {t : T} {sn : SN} {cs : List Value} (hs : sn.fields = [.int, .str]) (hz : sn.size = 2) (h : Rep w S t (.st sn) cs) : ∃ n s, t = .agg sn [.int n, .str s] ∧ cs = [.int .i64 n, .string s] := by
 obtain ⟨l, rfl, hl, hF⟩ := h.st_inv
 rw [hs] at hF
 obtain ⟨a, l, rfl, ra, hF⟩ := hF.cons_inv
 obtain ⟨b, l, rfl, rb, hF⟩ := hF.cons_inv
 obtain rfl := hF.nil_inv
 rw [hz] at hl
 obtain ⟨x, y, rfl⟩ : ∃ x y, cs = [x, y] := by
  match cs, hl with
  | [x, y], _ => exact ⟨x, y, rfl⟩
 simp only [Nat.zero_add, Ty.size, List.drop_zero, List.drop_succ_cons, List.take_succ_cons, List.take_zero] at ra rb
 obtain ⟨n, rfl, e, _⟩ := ra.int_inv
 obtain ⟨s, rfl, e', _⟩ := rb.str_inv
 cases e; cases e'
 exact ⟨n, s, rfl, rfl⟩
theorem neq_is {tid : TypeId} {sn : SN} (hs : sn.fields = [.int, .str]) (hz : sn.size = 2) (ht : tid = 59 ∨ tid = 61 ∨ tid = 170) (hg : Tryz.prog.eqGuardType Tryz.prog.depth tid = false) : Neq tid (.st sn) := by
 refine ⟨fun h k x y w => ?_, fun h k w => ?_⟩
 · exact guard_agg hg
 · obtain ⟨n, s, rfl, rfl⟩ := is_inv hs hz h
   obtain ⟨m, r, rfl, rfl⟩ := is_inv hs hz k
   rw [teq_of (c := decide (n = m) && decide (s = r)) (by simp)]
   exact neq_of_equal (eq_is (d := 9998) ht)
theorem neq59 : Neq 59 (.st .atom) := neq_is rfl rfl (.inl rfl) eg59
theorem neq61 : Neq 61 (.st .test) := neq_is rfl rfl (.inr (.inl rfl)) eg61
theorem neq170 : Neq 170 (.st .swap) := neq_is rfl rfl (.inr (.inr rfl)) eg170
theorem type_inv {w : World} {S : Nat → Prop} {t : T} {cs : List Value} (h : Rep w S t (.st .type) cs) : ∃ n m k s o, t = .agg .type [.int n, .int m, .agg .test [.int k, .str s], .str o] ∧ cs = [.int .i64 n, .int .i64 m, .int .i64 k, .string s, .string o] := by
 obtain ⟨l, rfl, hl, hF⟩ := h.st_inv
 obtain ⟨a, l, rfl, ra, hF⟩ := hF.cons_inv
 obtain ⟨b, l, rfl, rb, hF⟩ := hF.cons_inv
 obtain ⟨c, l, rfl, rc, hF⟩ := hF.cons_inv
 obtain ⟨d, l, rfl, rd, hF⟩ := hF.cons_inv
 obtain rfl := hF.nil_inv
 obtain ⟨x, y, z, u, v, rfl⟩ : ∃ x y z u v, cs = [x, y, z, u, v] := by
  match cs, hl with
  | [x, y, z, u, v], _ => exact ⟨x, y, z, u, v, rfl⟩
 simp only [Nat.zero_add, Nat.reduceAdd, Ty.size, SN.size, List.drop_zero, List.drop_succ_cons, List.take_succ_cons, List.take_zero] at ra rb rc rd
 obtain ⟨n, rfl, e1, _⟩ := ra.int_inv
 obtain ⟨m, rfl, e2, _⟩ := rb.int_inv
 obtain ⟨k, s, rfl, e3⟩ := is_inv rfl rfl rc
 obtain ⟨o, rfl, e4, _⟩ := rd.str_inv
 cases e1; cases e2; cases e3; cases e4
 exact ⟨n, m, k, s, o, rfl, rfl⟩
theorem neq63 : Neq 63 (.st .type) := by
 refine ⟨fun h k x y w => ?_, fun h k w => ?_⟩
 · exact guard_agg eg63
 · obtain ⟨n, m, i, s, o, rfl, rfl⟩ := type_inv h
   obtain ⟨n', m', i', s', o', rfl, rfl⟩ := type_inv k
   rw [teq_of (c := decide (n = n') && decide (m = m') && (decide (i = i') && decide (s = s')) && decide (o = o')) (by simp [and_assoc])]
   exact neq_of_equal (eq_type (d := 9997))
end Go.Sx
namespace Go.Sx
open Go.Proofs
def SEnc (f : FuncId) (ty : Ty) (t u : T) : Prop :=
 ∀ {w : World} {S : Nat → Prop} {cs ds : List Value}, Rep w S t ty cs → Rep w S u ty ds →
  Calls Tryz.prog f [valOf ty cs, valOf ty ds].toArray w (End (fun v w' => v = .bool (teq t u) ∧ Fr (fun _ => False) w (fun _ => False) w') (fun _ _ => False))
abbrev F0 (w w' : World) : Prop := Fr (fun _ => False) w (fun _ => False) w'
section
variable {w0 w : World} {S : Nat → Prop} {t u : T} {f : Ty} {cs ds : List Value}
theorem F0.at_ (h : F0 w0 w) {b o : Nat} {cs : List Value} (hb : b < w0.heap.size) (hA : At w0 b o cs) : At w b o cs := hA.agree (h.blk b hb (fun h => h))
theorem F0.drawn (h : F0 w0 w) : F0 w0 w.drew := h.trans (Fr.drewn 1)
theorem SEnc.quiet {g : FuncId} {b : Bool} (s : SEnc g f t u) (hq : teq t u = b) (hr : Rep w0 S t f cs) (hk : Rep w0 S u f ds) :
 ∀ w, F0 w0 w → Calls Tryz.prog g [valOf f cs, valOf f ds].toArray w (fun e w'' => e = .returned (.bool b) ∧ F0 w0 w'') := by
 intro w h
 refine (s (hr.fresh h) (hk.fresh h)).mono ?_
 intro e w' he
 cases e with
 | returned v => obtain ⟨rfl, g⟩ := he; exact ⟨by rw [hq], h.trans g⟩
 | panicked ch => exact he.elim
 | outgrown => exact he.elim
theorem SEnc.call {g : FuncId} {b : Bool} (s : SEnc g f t u) (hq : teq t u = b) (hr : Rep w0 S t f cs) (hk : Rep w0 S u f ds) (h : F0 w0 w) :
 Calls Tryz.prog g [valOf f cs, valOf f ds].toArray w (End (fun v w' => v = .bool b ∧ F0 w0 w') (fun _ _ => False)) := by
 refine (s (hr.fresh h) (hk.fresh h)).mono ?_
 intro e w' he
 cases e with
 | returned v => obtain ⟨rfl, g⟩ := he; exact ⟨by rw [hq], h.trans g⟩
 | panicked ch => exact he.elim
 | outgrown => exact he.elim
theorem Neq.run' {tid : TypeId} (n : Neq tid f) {b : Bool} (hq : teq t u = b) (hr : Rep w0 S t f cs) (hk : Rep w0 S u f ds) (w : World) : (binOp .neq tid (valOf f cs) (valOf f ds)).run Tryz.prog w = .ok (.bool (!b)) w := by
 rw [← hq]; exact n.run hr hk w
end
theorem teq_len {la lb : List T} (h : la.length ≠ lb.length) : teq (.list la) (.list lb) = false := teq_false (fun e => h (by cases e; rfl))
theorem teq_at {la lb : List T} {i : Nat} {a b : T} (ha : la[i]? = some a) (hb : lb[i]? = some b) (h : a ≠ b) : teq (.list la) (.list lb) = false := teq_false (fun e => by
 cases e
 rw [ha] at hb
 exact h (Option.some.inj hb))
theorem teq_all {la lb : List T} {i : Nat} (hl : la.length = lb.length) (hi : i = la.length) (h : ∀ j, j < i → la[j]? = lb[j]?) : teq (.list la) (.list lb) = true := teq_true (by
 congr 1
 apply List.ext_getElem?
 intro j
 by_cases hj : j < i
 · exact h j hj
 · rw [List.getElem?_eq_none (by omega), List.getElem?_eq_none (by omega)])
theorem step_eq {la lb : List T} {i : Nat} {a b : T} (h : ∀ j, j < i → la[j]? = lb[j]?) (ha : la[i]? = some a) (hb : lb[i]? = some b) (e : a = b) : ∀ j, j < i + 1 → la[j]? = lb[j]? := by
 intro j hj
 rcases Nat.lt_succ_iff_lt_or_eq.1 hj with h1 | rfl
 · exact h j h1
 · rw [ha, hb, e]
theorem neq_cast {a b : Nat} : decide (a ≠ b) = !decide ((a : Int) = (b : Int)) := by
 by_cases h : a = b
 · simp [h]
 · have : ¬ ((a : Int) = (b : Int)) := by omega
   simp [h, this]
theorem s91 {t u : T} : SEnc 91 (.list .str) t u := by
 intro w S cs ds hr hk
 obtain ⟨la, rfl⟩ := hr.is_list
 obtain ⟨lb, rfl⟩ := hk.is_list
 obtain ⟨ga, capa, hva, hmla, hgeta⟩ := list_at hr
 obtain ⟨gb, capb, hvb, hmlb, hgetb⟩ := list_at hk
 rw [hva, hvb]
 refine cW 26 Tryz.func91 rfl rfl rfl ?_
 refine W.sq (W.rg (WL.an rfl rfl (WL.nx ?_)))
 refine W.sq (W.sq (W.rg (WL.mv rfl rfl (WL.len rfl (lS Tryz.underlying44) rfl (WL.mv rfl rfl (WL.len rfl (lS Tryz.underlying44) rfl (WL.bi rfl rfl (run_neq (c := decide (la.length ≠ lb.length)) neq_cast) rfl (WL.nx (W.cond rfl (fun ht => ?_) (fun hf => W.skip fun a ha => tN ?_))))))))))
 · have hne : la.length ≠ lb.length := of_decide_eq_true ht
   refine W.sq (W.rg (WL.an rfl rfl (WL.nx (W.ret fun a ha => tR (pR rfl ha rfl ⟨by rw [teq_len hne], Fr.refl _ _⟩)))))
 have hle : la.length = lb.length := Classical.byContradiction (of_decide_eq_false hf)
 refine W.run ha (W.sq (W.sq (W.rg (WL.an rfl rfl (WL.nx ?_)))))
 refine W.bk (W.loop (ι := Nat × World) (fun i => [(0, .slice ga la.length capa), (1, .slice gb lb.length capb), (5, .int .i64 (i.1 : Int))]) (fun i w' => w' = i.2 ∧ i.1 ≤ la.length ∧ F0 w w' ∧ ∀ j, j < i.1 → la[j]? = lb[j]?) (fun i => la.length - i.1)
  (0, w) ⟨rfl, rfl, rfl, trivial⟩ ⟨rfl, Nat.zero_le _, Fr.refl _ _, fun j hj => absurd hj (Nat.not_lt_zero j)⟩ ?_)
 rintro ⟨i, _⟩ w1 ⟨rfl, hi, h, hall⟩
 simp only at hi h hall ⊢
 refine W.sq (W.sq (W.rg (WL.mv rfl rfl (WL.mv rfl rfl (WL.len rfl (lS Tryz.underlying44) rfl (WL.bi rfl rfl (run_lss (c := decide (i < la.length)) (decide_eq_decide.2 Int.ofNat_lt.symm)) rfl (WL.nx (W.cond rfl (fun ht => W.skip fun a ha => tN ?_) (fun hf => W.exit fun a ha => tE (tE (eH (tN ?_))))))))))))
 · have hil : i < la.length := of_decide_eq_true ht
   obtain ⟨ta, hta⟩ : ∃ t, la[i]? = some t := ⟨_, List.getElem?_eq_getElem hil⟩
   obtain ⟨tb, htb⟩ : ∃ t, lb[i]? = some t := ⟨_, List.getElem?_eq_getElem (hle ▸ hil)⟩
   obtain ⟨ba, oa, da, hixa, _, hlta, hAa, ra⟩ := hgeta i ta hta
   obtain ⟨bb, ob, db, hixb, _, hltb, hAb, rb⟩ := hgetb i tb htb
   refine W.run ha (W.sq (W.bk (W.sq (W.quiet (F0 w) mixed (by kernel_rfl) h.drawn ?_))))
   refine QL.move rfl rfl (QL.move rfl rfl (QL.ix rfl rfl (fun w => hixa w Tryz.underlying44 iy9 rfl) rfl (QL.load rfl (fun w h => lR (f := .str) iy9 ra (h.at_ hlta hAa)) rfl ?_)))
   refine QL.move rfl rfl (QL.move rfl rfl (QL.ix rfl rfl (fun w => hixb w Tryz.underlying44 iy9 rfl) rfl (QL.load rfl (fun w h => lR (f := .str) iy9 rb (h.at_ hltb hAb)) rfl ?_)))
   cases hq : teq ta tb with
   | false =>
    refine QL.binAny rfl rfl (neq9.guard ra rb _ _) (neq9.run' hq ra rb) rfl ?_
    refine QL.skip _ _ _ rfl (QL.next fun w' h' => W.ct rfl ?_)
    refine W.sq (W.rg (WL.an rfl rfl (WL.nx (W.ret fun a ha => bR (tR (tR (bR (tR (pR rfl ha rfl ⟨by rw [teq_at hta htb (teq_ne hq)], h'⟩)))))))))
   | true =>
    refine QL.binAny rfl rfl (neq9.guard ra rb _ _) (neq9.run' hq ra rb) rfl ?_
    refine QL.next fun w' h' => W.cond_false rfl (W.skip fun a ha => bN (tN ?_))
    refine W.run ha (W.rg (WL.mv rfl rfl (WL.bi rfl rfl rfl rfl (WL.an rfl rfl (WL.nil fun a ha => tN ?_)))))
    exact ⟨(i + 1, w'), ha.weak ⟨rfl, rfl, congrArg some (inc_i64 (lt_len hil hmla)), trivial⟩, ⟨rfl, hil, h', step_eq hall hta htb (teq_eq hq)⟩, Nat.sub_lt_sub_left hil (Nat.lt_succ_self i)⟩
 · have hend : i = la.length := Nat.le_antisymm hi (Nat.le_of_not_lt (of_decide_eq_false hf))
   refine W.run ha (W.sq (W.rg (WL.an rfl rfl (WL.nx (W.ret fun a ha => pR rfl ha rfl ⟨by rw [teq_all hle hend hall], h⟩)))))
end Go.Sx
namespace Go.Sx
open Go.Proofs
theorem s204 {t u : T} : SEnc 204 (.list (.int)) t u := by
 intro w S cs ds hr hk
 obtain ⟨la, rfl⟩ := hr.is_list
 obtain ⟨lb, rfl⟩ := hk.is_list
 obtain ⟨ga, capa, hva, hmla, hgeta⟩ := list_at hr
 obtain ⟨gb, capb, hvb, hmlb, hgetb⟩ := list_at hk
 rw [hva, hvb]
 refine cW 26 Tryz.func204 rfl rfl rfl ?_
 refine W.sq (W.rg (WL.an rfl rfl (WL.nx ?_)))
 refine W.sq (W.sq (W.rg (WL.mv rfl rfl (WL.len rfl (lS Tryz.underlying262) rfl (WL.mv rfl rfl (WL.len rfl (lS Tryz.underlying262) rfl (WL.bi rfl rfl (run_neq (c := decide (la.length ≠ lb.length)) neq_cast) rfl (WL.nx (W.cond rfl (fun ht => ?_) (fun hf => W.skip fun a ha => tN ?_))))))))))
 · have hne : la.length ≠ lb.length := of_decide_eq_true ht
   refine W.sq (W.rg (WL.an rfl rfl (WL.nx (W.ret fun a ha => tR (pR rfl ha rfl ⟨by rw [teq_len hne], Fr.refl _ _⟩)))))
 have hle : la.length = lb.length := Classical.byContradiction (of_decide_eq_false hf)
 refine W.run ha (W.sq (W.sq (W.rg (WL.an rfl rfl (WL.nx ?_)))))
 refine W.bk (W.loop (ι := Nat × World) (fun i => [(0, .slice ga la.length capa), (1, .slice gb lb.length capb), (5, .int .i64 (i.1 : Int))]) (fun i w' => w' = i.2 ∧ i.1 ≤ la.length ∧ F0 w w' ∧ ∀ j, j < i.1 → la[j]? = lb[j]?) (fun i => la.length - i.1)
  (0, w) ⟨rfl, rfl, rfl, trivial⟩ ⟨rfl, Nat.zero_le _, Fr.refl _ _, fun j hj => absurd hj (Nat.not_lt_zero j)⟩ ?_)
 rintro ⟨i, _⟩ w1 ⟨rfl, hi, h, hall⟩
 simp only at hi h hall ⊢
 refine W.sq (W.sq (W.rg (WL.mv rfl rfl (WL.mv rfl rfl (WL.len rfl (lS Tryz.underlying262) rfl (WL.bi rfl rfl (run_lss (c := decide (i < la.length)) (decide_eq_decide.2 Int.ofNat_lt.symm)) rfl (WL.nx (W.cond rfl (fun ht => W.skip fun a ha => tN ?_) (fun hf => W.exit fun a ha => tE (tE (eH (tN ?_))))))))))))
 · have hil : i < la.length := of_decide_eq_true ht
   obtain ⟨ta, hta⟩ : ∃ t, la[i]? = some t := ⟨_, List.getElem?_eq_getElem hil⟩
   obtain ⟨tb, htb⟩ : ∃ t, lb[i]? = some t := ⟨_, List.getElem?_eq_getElem (hle ▸ hil)⟩
   have hwa := T.wt_mem (List.mem_of_getElem? hta)
   obtain ⟨ba, oa, da, hixa, _, hlta, hAa, ra⟩ := hgeta i ta hta
   obtain ⟨bb, ob, db, hixb, _, hltb, hAb, rb⟩ := hgetb i tb htb
   refine W.run ha (W.sq (W.bk (W.sq (W.quiet (F0 w) mixed (by kernel_rfl) h.drawn ?_))))
   clear h
   refine QL.move rfl rfl (QL.move rfl rfl (QL.ix rfl rfl (fun w => hixa w Tryz.underlying262 iy3 rfl) rfl (QL.load rfl (fun w h => lR (f := .int) iy3 ra (h.at_ hlta hAa)) rfl (QL.move rfl rfl (QL.move rfl rfl (QL.ix rfl rfl (fun w => hixb w Tryz.underlying262 iy3 rfl) rfl (QL.load rfl (fun w h => lR (f := .int) iy3 rb (h.at_ hltb hAb)) rfl (?_))))))))
   cases hq1 : teq ta tb with
   | false =>
    refine QL.binAny rfl rfl (neq3.guard ra rb _ _) (neq3.run' hq1 ra rb) rfl ?_
    refine QL.skip _ _ _ rfl (QL.next fun w1 h => W.ct rfl ?_)
    exact W.sq (W.rg (WL.an rfl rfl (WL.nx (W.ret fun a ha => bR (tR (tR (bR (tR (pR rfl ha rfl ⟨by rw [teq_at hta htb (teq_ne hq1)], h⟩)))))))))
   | true =>
    refine QL.binAny rfl rfl (neq3.guard ra rb _ _) (neq3.run' hq1 ra rb) rfl (QL.next fun w1 h => W.cond_false rfl (W.skip fun a ha => bN (tN ?_)))
    refine W.run ha (W.rg (WL.mv rfl rfl (WL.bi rfl rfl rfl rfl (WL.an rfl rfl (WL.nil fun a ha => tN ?_)))))
    exact ⟨(i + 1, w1), ha.weak ⟨rfl, rfl, congrArg some (inc_i64 (lt_len hil hmla)), trivial⟩, ⟨rfl, hil, h, step_eq hall hta htb (teq_eq hq1)⟩, Nat.sub_lt_sub_left hil (Nat.lt_succ_self i)⟩
 · have hend : i = la.length := Nat.le_antisymm hi (Nat.le_of_not_lt (of_decide_eq_false hf))
   exact W.run ha (W.sq (W.rg (WL.an rfl rfl (WL.nx (W.ret fun a ha => pR rfl ha rfl ⟨by rw [teq_all hle hend hall], h⟩)))))
theorem s90 {t u : T} (ih : ∀ t' u', t'.wt < t.wt → SEnc 94 (.st .expr) t' u') : SEnc 90 (.list (.st .expr)) t u := by
 intro w S cs ds hr hk
 obtain ⟨la, rfl⟩ := hr.is_list
 obtain ⟨lb, rfl⟩ := hk.is_list
 obtain ⟨ga, capa, hva, hmla, hgeta⟩ := list_at hr
 obtain ⟨gb, capb, hvb, hmlb, hgetb⟩ := list_at hk
 rw [hva, hvb]
 refine cW 27 Tryz.func90 rfl rfl rfl ?_
 refine W.sq (W.rg (WL.an rfl rfl (WL.nx ?_)))
 refine W.sq (W.sq (W.rg (WL.mv rfl rfl (WL.len rfl (lS Tryz.underlying64) rfl (WL.mv rfl rfl (WL.len rfl (lS Tryz.underlying64) rfl (WL.bi rfl rfl (run_neq (c := decide (la.length ≠ lb.length)) neq_cast) rfl (WL.nx (W.cond rfl (fun ht => ?_) (fun hf => W.skip fun a ha => tN ?_))))))))))
 · have hne : la.length ≠ lb.length := of_decide_eq_true ht
   refine W.sq (W.rg (WL.an rfl rfl (WL.nx (W.ret fun a ha => tR (pR rfl ha rfl ⟨by rw [teq_len hne], Fr.refl _ _⟩)))))
 have hle : la.length = lb.length := Classical.byContradiction (of_decide_eq_false hf)
 refine W.run ha (W.sq (W.sq (W.rg (WL.an rfl rfl (WL.nx ?_)))))
 refine W.bk (W.loop (ι := Nat × World) (fun i => [(0, .slice ga la.length capa), (1, .slice gb lb.length capb), (5, .int .i64 (i.1 : Int))]) (fun i w' => w' = i.2 ∧ i.1 ≤ la.length ∧ F0 w w' ∧ ∀ j, j < i.1 → la[j]? = lb[j]?) (fun i => la.length - i.1)
  (0, w) ⟨rfl, rfl, rfl, trivial⟩ ⟨rfl, Nat.zero_le _, Fr.refl _ _, fun j hj => absurd hj (Nat.not_lt_zero j)⟩ ?_)
 rintro ⟨i, _⟩ w1 ⟨rfl, hi, h, hall⟩
 simp only at hi h hall ⊢
 refine W.sq (W.sq (W.rg (WL.mv rfl rfl (WL.mv rfl rfl (WL.len rfl (lS Tryz.underlying64) rfl (WL.bi rfl rfl (run_lss (c := decide (i < la.length)) (decide_eq_decide.2 Int.ofNat_lt.symm)) rfl (WL.nx (W.cond rfl (fun ht => W.skip fun a ha => tN ?_) (fun hf => W.exit fun a ha => tE (tE (eH (tN ?_))))))))))))
 · have hil : i < la.length := of_decide_eq_true ht
   obtain ⟨ta, hta⟩ : ∃ t, la[i]? = some t := ⟨_, List.getElem?_eq_getElem hil⟩
   obtain ⟨tb, htb⟩ : ∃ t, lb[i]? = some t := ⟨_, List.getElem?_eq_getElem (hle ▸ hil)⟩
   have hwa := T.wt_mem (List.mem_of_getElem? hta)
   obtain ⟨ba, oa, da, hixa, _, hlta, hAa, ra⟩ := hgeta i ta hta
   obtain ⟨bb, ob, db, hixb, _, hltb, hAb, rb⟩ := hgetb i tb htb
   refine W.run ha (W.sq (W.bk (W.sq (W.quiet (F0 w) mixed (by kernel_rfl) h.drawn ?_))))
   clear h
   refine QL.move rfl rfl (QL.move rfl rfl (QL.ix rfl rfl (fun w => hixa w Tryz.underlying64 iy66 rfl) rfl (QL.load rfl (fun w h => lR (f := .st .expr) iy66 ra (h.at_ hlta hAa)) rfl (QL.move rfl rfl (QL.move rfl rfl (QL.ix rfl rfl (fun w => hixb w Tryz.underlying64 iy66 rfl) rfl (QL.load rfl (fun w h => lR (f := .st .expr) iy66 rb (h.at_ hltb hAb)) rfl (?_))))))))
   cases hq2 : teq ta tb with
   | false =>
    refine QL.call Tryz.call94 rfl rfl (SEnc.quiet (ih _ _ (elem_lt hwa)) hq2 ra rb) (QL.not rfl rfl ?_)
    refine QL.skip _ _ _ rfl (QL.next fun w1 h => W.ct rfl ?_)
    exact W.sq (W.rg (WL.an rfl rfl (WL.nx (W.ret fun a ha => bR (tR (tR (bR (tR (pR rfl ha rfl ⟨by rw [teq_at hta htb (teq_ne hq2)], h⟩)))))))))
   | true =>
    refine QL.call Tryz.call94 rfl rfl (SEnc.quiet (ih _ _ (elem_lt hwa)) hq2 ra rb) (QL.not rfl rfl (QL.next fun w1 h => W.cond_false rfl (W.skip fun a ha => bN (tN ?_))))
    refine W.run ha (W.rg (WL.mv rfl rfl (WL.bi rfl rfl rfl rfl (WL.an rfl rfl (WL.nil fun a ha => tN ?_)))))
    exact ⟨(i + 1, w1), ha.weak ⟨rfl, rfl, congrArg some (inc_i64 (lt_len hil hmla)), trivial⟩, ⟨rfl, hil, h, step_eq hall hta htb (teq_eq hq2)⟩, Nat.sub_lt_sub_left hil (Nat.lt_succ_self i)⟩
 · have hend : i = la.length := Nat.le_antisymm hi (Nat.le_of_not_lt (of_decide_eq_false hf))
   exact W.run ha (W.sq (W.rg (WL.an rfl rfl (WL.nx (W.ret fun a ha => pR rfl ha rfl ⟨by rw [teq_all hle hend hall], h⟩)))))
theorem s146 {t u : T} (hX : ∀ t u, SEnc 94 (.st .expr) t u) : SEnc 146 (.list (.st .part)) t u := by
 intro w S cs ds hr hk
 obtain ⟨la, rfl⟩ := hr.is_list
 obtain ⟨lb, rfl⟩ := hk.is_list
 obtain ⟨ga, capa, hva, hmla, hgeta⟩ := list_at hr
 obtain ⟨gb, capb, hvb, hmlb, hgetb⟩ := list_at hk
 rw [hva, hvb]
 refine cW 55 Tryz.func146 rfl rfl rfl ?_
 refine W.sq (W.rg (WL.an rfl rfl (WL.nx ?_)))
 refine W.sq (W.sq (W.rg (WL.mv rfl rfl (WL.len rfl (lS Tryz.underlying57) rfl (WL.mv rfl rfl (WL.len rfl (lS Tryz.underlying57) rfl (WL.bi rfl rfl (run_neq (c := decide (la.length ≠ lb.length)) neq_cast) rfl (WL.nx (W.cond rfl (fun ht => ?_) (fun hf => W.skip fun a ha => tN ?_))))))))))
 · have hne : la.length ≠ lb.length := of_decide_eq_true ht
   refine W.sq (W.rg (WL.an rfl rfl (WL.nx (W.ret fun a ha => tR (pR rfl ha rfl ⟨by rw [teq_len hne], Fr.refl _ _⟩)))))
 have hle : la.length = lb.length := Classical.byContradiction (of_decide_eq_false hf)
 refine W.run ha (W.sq (W.sq (W.rg (WL.an rfl rfl (WL.nx ?_)))))
 refine W.bk (W.loop (ι := Nat × World) (fun i => [(0, .slice ga la.length capa), (1, .slice gb lb.length capb), (5, .int .i64 (i.1 : Int))]) (fun i w' => w' = i.2 ∧ i.1 ≤ la.length ∧ F0 w w' ∧ ∀ j, j < i.1 → la[j]? = lb[j]?) (fun i => la.length - i.1)
  (0, w) ⟨rfl, rfl, rfl, trivial⟩ ⟨rfl, Nat.zero_le _, Fr.refl _ _, fun j hj => absurd hj (Nat.not_lt_zero j)⟩ ?_)
 rintro ⟨i, _⟩ w1 ⟨rfl, hi, h, hall⟩
 simp only at hi h hall ⊢
 refine W.sq (W.sq (W.rg (WL.mv rfl rfl (WL.mv rfl rfl (WL.len rfl (lS Tryz.underlying57) rfl (WL.bi rfl rfl (run_lss (c := decide (i < la.length)) (decide_eq_decide.2 Int.ofNat_lt.symm)) rfl (WL.nx (W.cond rfl (fun ht => W.skip fun a ha => tN ?_) (fun hf => W.exit fun a ha => tE (tE (eH (tN ?_))))))))))))
 · have hil : i < la.length := of_decide_eq_true ht
   obtain ⟨ta, hta⟩ : ∃ t, la[i]? = some t := ⟨_, List.getElem?_eq_getElem hil⟩
   obtain ⟨tb, htb⟩ : ∃ t, lb[i]? = some t := ⟨_, List.getElem?_eq_getElem (hle ▸ hil)⟩
   have hwa := T.wt_mem (List.mem_of_getElem? hta)
   obtain ⟨ba, oa, da, hixa, _, hlta, hAa, ra⟩ := hgeta i ta hta
   obtain ⟨bb, ob, db, hixb, _, hltb, hAb, rb⟩ := hgetb i tb htb
   obtain ⟨fla, rfl, hlena, hFa⟩ := ra.st_inv
   obtain ⟨aa_0, fla, rfl, ra_0, hFa⟩ := hFa.cons_inv
   obtain ⟨aa_1, fla, rfl, ra_1, hFa⟩ := hFa.cons_inv
   obtain ⟨aa_2, fla, rfl, ra_2, hFa⟩ := hFa.cons_inv
   obtain rfl := hFa.nil_inv
   simp only [Nat.zero_add, Nat.reduceAdd, Ty.size, SN.size] at ra_0 ra_1 ra_2
   obtain ⟨flb, rfl, hlenb, hFb⟩ := rb.st_inv
   obtain ⟨ab_0, flb, rfl, rb_0, hFb⟩ := hFb.cons_inv
   obtain ⟨ab_1, flb, rfl, rb_1, hFb⟩ := hFb.cons_inv
   obtain ⟨ab_2, flb, rfl, rb_2, hFb⟩ := hFb.cons_inv
   obtain rfl := hFb.nil_inv
   simp only [Nat.zero_add, Nat.reduceAdd, Ty.size, SN.size] at rb_0 rb_1 rb_2
   refine W.run ha (W.sq (W.bk (W.sq (W.quiet (F0 w) mixed (by kernel_rfl) h.drawn ?_))))
   clear h
   refine QL.move rfl rfl (QL.move rfl rfl (QL.ix rfl rfl (fun w => hixa w Tryz.underlying57 iy282 rfl) rfl (QL.fa rfl (fun w => fld282_0 w _ _) rfl (QL.load rfl (fun w h => lR (f := .str) iy9 ra_0 (h.at_ hlta (hAa.sub 0 1))) rfl (QL.move rfl rfl (QL.move rfl rfl (QL.ix rfl rfl (fun w => hixb w Tryz.underlying57 iy282 rfl) rfl (QL.fa rfl (fun w => fld282_0 w _ _) rfl (QL.load rfl (fun w h => lR (f := .str) iy9 rb_0 (h.at_ hltb (hAb.sub 0 1))) rfl (?_))))))))))
   cases hq3 : teq aa_0 ab_0 with
   | false =>
    refine QL.binAny rfl rfl (neq9.guard ra_0 rb_0 _ _) (neq9.run' hq3 ra_0 rb_0) rfl ?_
    refine QL.skip _ _ _ rfl (QL.next fun w1 h => W.ct rfl ?_)
    exact W.sq (W.rg (WL.an rfl rfl (WL.nx (W.ret fun a ha => bR (tR (tR (bR (tR (pR rfl ha rfl ⟨by rw [teq_at hta htb (fun e => by cases e; exact teq_ne hq3 rfl)], h⟩)))))))))
   | true =>
    refine QL.binAny rfl rfl (neq9.guard ra_0 rb_0 _ _) (neq9.run' hq3 ra_0 rb_0) rfl (QL.move rfl rfl (QL.gd (j := 11) rfl rfl rfl (QL.move rfl rfl (QL.gd (j := 11) rfl rfl rfl (QL.move rfl rfl (QL.gd (j := 11) rfl rfl rfl (QL.ix rfl rfl (fun w => hixa w Tryz.underlying57 iy282 rfl) rfl (QL.gd (j := 11) rfl rfl rfl (QL.fa rfl (fun w => fld282_1 w _ _) rfl (QL.gd (j := 11) rfl rfl rfl (QL.load rfl (fun w h => lR (f := .bool) iy4 ra_1 (h.at_ hlta (hAa.sub 1 1))) rfl (QL.gd (j := 11) rfl rfl rfl (QL.move rfl rfl (QL.gd (j := 11) rfl rfl rfl (QL.move rfl rfl (QL.gd (j := 11) rfl rfl rfl (QL.ix rfl rfl (fun w => hixb w Tryz.underlying57 iy282 rfl) rfl (QL.gd (j := 11) rfl rfl rfl (QL.fa rfl (fun w => fld282_1 w _ _) rfl (QL.gd (j := 11) rfl rfl rfl (QL.load rfl (fun w h => lR (f := .bool) iy4 rb_1 (h.at_ hltb (hAb.sub 1 1))) rfl (?_))))))))))))))))))))))
    cases hq4 : teq aa_1 ab_1 with
    | false =>
     refine QL.gd (j := 11) rfl rfl rfl (QL.binAny rfl rfl (neq4.guard ra_1 rb_1 _ _) (neq4.run' hq4 ra_1 rb_1) rfl ?_)
     refine QL.skip _ _ _ rfl (QL.next fun w1 h => W.ct rfl ?_)
     exact W.sq (W.rg (WL.an rfl rfl (WL.nx (W.ret fun a ha => bR (tR (tR (bR (tR (pR rfl ha rfl ⟨by rw [teq_at hta htb (fun e => by cases e; exact teq_ne hq4 rfl)], h⟩)))))))))
    | true =>
     refine QL.gd (j := 11) rfl rfl rfl (QL.binAny rfl rfl (neq4.guard ra_1 rb_1 _ _) (neq4.run' hq4 ra_1 rb_1) rfl (QL.pick rfl rfl rfl (QL.move rfl rfl (QL.gd (j := 24) rfl rfl rfl (QL.move rfl rfl (QL.gd (j := 24) rfl rfl rfl (QL.move rfl rfl (QL.gd (j := 24) rfl rfl rfl (QL.ix rfl rfl (fun w => hixa w Tryz.underlying57 iy282 rfl) rfl (QL.gd (j := 24) rfl rfl rfl (QL.fa rfl (fun w => fld282_2 w _ _) rfl (QL.gd (j := 24) rfl rfl rfl (QL.load rfl (fun w h => lR (f := .st .expr) iy66 ra_2 (h.at_ hlta (hAa.sub 2 16))) rfl (QL.gd (j := 24) rfl rfl rfl (QL.move rfl rfl (QL.gd (j := 24) rfl rfl rfl (QL.move rfl rfl (QL.gd (j := 24) rfl rfl rfl (QL.ix rfl rfl (fun w => hixb w Tryz.underlying57 iy282 rfl) rfl (QL.gd (j := 24) rfl rfl rfl (QL.fa rfl (fun w => fld282_2 w _ _) rfl (QL.gd (j := 24) rfl rfl rfl (QL.load rfl (fun w h => lR (f := .st .expr) iy66 rb_2 (h.at_ hltb (hAb.sub 2 16))) rfl (?_))))))))))))))))))))))))
     cases hq5 : teq aa_2 ab_2 with
     | false =>
      refine QL.gd (j := 24) rfl rfl rfl (QL.call Tryz.call94 rfl rfl (SEnc.quiet (hX _ _) hq5 ra_2 rb_2) (QL.gd (j := 24) rfl rfl rfl (QL.not rfl rfl ?_)))
      refine QL.skip _ _ _ rfl (QL.next fun w1 h => W.ct rfl ?_)
      exact W.sq (W.rg (WL.an rfl rfl (WL.nx (W.ret fun a ha => bR (tR (tR (bR (tR (pR rfl ha rfl ⟨by rw [teq_at hta htb (fun e => by cases e; exact teq_ne hq5 rfl)], h⟩)))))))))
     | true =>
      refine QL.gd (j := 24) rfl rfl rfl (QL.call Tryz.call94 rfl rfl (SEnc.quiet (hX _ _) hq5 ra_2 rb_2) (QL.gd (j := 24) rfl rfl rfl (QL.not rfl rfl (QL.pick rfl rfl rfl (QL.next fun w1 h => W.cond_false rfl (W.skip fun a ha => bN (tN ?_)))))))
      refine W.run ha (W.rg (WL.mv rfl rfl (WL.bi rfl rfl rfl rfl (WL.an rfl rfl (WL.nil fun a ha => tN ?_)))))
      exact ⟨(i + 1, w1), ha.weak ⟨rfl, rfl, congrArg some (inc_i64 (lt_len hil hmla)), trivial⟩, ⟨rfl, hil, h, step_eq hall hta htb (by rw [teq_eq hq3, teq_eq hq4, teq_eq hq5])⟩, Nat.sub_lt_sub_left hil (Nat.lt_succ_self i)⟩
 · have hend : i = la.length := Nat.le_antisymm hi (Nat.le_of_not_lt (of_decide_eq_false hf))
   exact W.run ha (W.sq (W.rg (WL.an rfl rfl (WL.nx (W.ret fun a ha => pR rfl ha rfl ⟨by rw [teq_all hle hend hall], h⟩)))))
theorem s147 {t u : T} (hX : ∀ t u, SEnc 94 (.st .expr) t u) : SEnc 147 (.list (.st .sort)) t u := by
 intro w S cs ds hr hk
 obtain ⟨la, rfl⟩ := hr.is_list
 obtain ⟨lb, rfl⟩ := hk.is_list
 obtain ⟨ga, capa, hva, hmla, hgeta⟩ := list_at hr
 obtain ⟨gb, capb, hvb, hmlb, hgetb⟩ := list_at hk
 rw [hva, hvb]
 refine cW 68 Tryz.func147 rfl rfl rfl ?_
 refine W.sq (W.rg (WL.an rfl rfl (WL.nx ?_)))
 refine W.sq (W.sq (W.rg (WL.mv rfl rfl (WL.len rfl (lS Tryz.underlying67) rfl (WL.mv rfl rfl (WL.len rfl (lS Tryz.underlying67) rfl (WL.bi rfl rfl (run_neq (c := decide (la.length ≠ lb.length)) neq_cast) rfl (WL.nx (W.cond rfl (fun ht => ?_) (fun hf => W.skip fun a ha => tN ?_))))))))))
 · have hne : la.length ≠ lb.length := of_decide_eq_true ht
   refine W.sq (W.rg (WL.an rfl rfl (WL.nx (W.ret fun a ha => tR (pR rfl ha rfl ⟨by rw [teq_len hne], Fr.refl _ _⟩)))))
 have hle : la.length = lb.length := Classical.byContradiction (of_decide_eq_false hf)
 refine W.run ha (W.sq (W.sq (W.rg (WL.an rfl rfl (WL.nx ?_)))))
 refine W.bk (W.loop (ι := Nat × World) (fun i => [(0, .slice ga la.length capa), (1, .slice gb lb.length capb), (5, .int .i64 (i.1 : Int))]) (fun i w' => w' = i.2 ∧ i.1 ≤ la.length ∧ F0 w w' ∧ ∀ j, j < i.1 → la[j]? = lb[j]?) (fun i => la.length - i.1)
  (0, w) ⟨rfl, rfl, rfl, trivial⟩ ⟨rfl, Nat.zero_le _, Fr.refl _ _, fun j hj => absurd hj (Nat.not_lt_zero j)⟩ ?_)
 rintro ⟨i, _⟩ w1 ⟨rfl, hi, h, hall⟩
 simp only at hi h hall ⊢
 refine W.sq (W.sq (W.rg (WL.mv rfl rfl (WL.mv rfl rfl (WL.len rfl (lS Tryz.underlying67) rfl (WL.bi rfl rfl (run_lss (c := decide (i < la.length)) (decide_eq_decide.2 Int.ofNat_lt.symm)) rfl (WL.nx (W.cond rfl (fun ht => W.skip fun a ha => tN ?_) (fun hf => W.exit fun a ha => tE (tE (eH (tN ?_))))))))))))
 · have hil : i < la.length := of_decide_eq_true ht
   obtain ⟨ta, hta⟩ : ∃ t, la[i]? = some t := ⟨_, List.getElem?_eq_getElem hil⟩
   obtain ⟨tb, htb⟩ : ∃ t, lb[i]? = some t := ⟨_, List.getElem?_eq_getElem (hle ▸ hil)⟩
   have hwa := T.wt_mem (List.mem_of_getElem? hta)
   obtain ⟨ba, oa, da, hixa, _, hlta, hAa, ra⟩ := hgeta i ta hta
   obtain ⟨bb, ob, db, hixb, _, hltb, hAb, rb⟩ := hgetb i tb htb
   obtain ⟨fla, rfl, hlena, hFa⟩ := ra.st_inv
   obtain ⟨aa_0, fla, rfl, ra_0, hFa⟩ := hFa.cons_inv
   obtain ⟨aa_1, fla, rfl, ra_1, hFa⟩ := hFa.cons_inv
   obtain ⟨aa_2, fla, rfl, ra_2, hFa⟩ := hFa.cons_inv
   obtain ⟨aa_3, fla, rfl, ra_3, hFa⟩ := hFa.cons_inv
   obtain rfl := hFa.nil_inv
   simp only [Nat.zero_add, Nat.reduceAdd, Ty.size, SN.size] at ra_0 ra_1 ra_2 ra_3
   obtain ⟨flb, rfl, hlenb, hFb⟩ := rb.st_inv
   obtain ⟨ab_0, flb, rfl, rb_0, hFb⟩ := hFb.cons_inv
   obtain ⟨ab_1, flb, rfl, rb_1, hFb⟩ := hFb.cons_inv
   obtain ⟨ab_2, flb, rfl, rb_2, hFb⟩ := hFb.cons_inv
   obtain ⟨ab_3, flb, rfl, rb_3, hFb⟩ := hFb.cons_inv
   obtain rfl := hFb.nil_inv
   simp only [Nat.zero_add, Nat.reduceAdd, Ty.size, SN.size] at rb_0 rb_1 rb_2 rb_3
   refine W.run ha (W.sq (W.bk (W.sq (W.quiet (F0 w) mixed (by kernel_rfl) h.drawn ?_))))
   clear h
   refine QL.move rfl rfl (QL.move rfl rfl (QL.ix rfl rfl (fun w => hixa w Tryz.underlying67 iy286 rfl) rfl (QL.fa rfl (fun w => fld286_0 w _ _) rfl (QL.load rfl (fun w h => lR (f := .st .expr) iy66 ra_0 (h.at_ hlta (hAa.sub 0 16))) rfl (QL.move rfl rfl (QL.move rfl rfl (QL.ix rfl rfl (fun w => hixb w Tryz.underlying67 iy286 rfl) rfl (QL.fa rfl (fun w => fld286_0 w _ _) rfl (QL.load rfl (fun w h => lR (f := .st .expr) iy66 rb_0 (h.at_ hltb (hAb.sub 0 16))) rfl (?_))))))))))
   cases hq6 : teq aa_0 ab_0 with
   | false =>
    refine QL.call Tryz.call94 rfl rfl (SEnc.quiet (hX _ _) hq6 ra_0 rb_0) (QL.not rfl rfl ?_)
    refine QL.skip _ _ _ rfl (QL.next fun w1 h => W.ct rfl ?_)
    exact W.sq (W.rg (WL.an rfl rfl (WL.nx (W.ret fun a ha => bR (tR (tR (bR (tR (pR rfl ha rfl ⟨by rw [teq_at hta htb (fun e => by cases e; exact teq_ne hq6 rfl)], h⟩)))))))))
   | true =>
    refine QL.call Tryz.call94 rfl rfl (SEnc.quiet (hX _ _) hq6 ra_0 rb_0) (QL.not rfl rfl (QL.move rfl rfl (QL.gd (j := 12) rfl rfl rfl (QL.move rfl rfl (QL.gd (j := 12) rfl rfl rfl (QL.move rfl rfl (QL.gd (j := 12) rfl rfl rfl (QL.ix rfl rfl (fun w => hixa w Tryz.underlying67 iy286 rfl) rfl (QL.gd (j := 12) rfl rfl rfl (QL.fa rfl (fun w => fld286_1 w _ _) rfl (QL.gd (j := 12) rfl rfl rfl (QL.load rfl (fun w h => lR (f := .bool) iy4 ra_1 (h.at_ hlta (hAa.sub 16 1))) rfl (QL.gd (j := 12) rfl rfl rfl (QL.move rfl rfl (QL.gd (j := 12) rfl rfl rfl (QL.move rfl rfl (QL.gd (j := 12) rfl rfl rfl (QL.ix rfl rfl (fun w => hixb w Tryz.underlying67 iy286 rfl) rfl (QL.gd (j := 12) rfl rfl rfl (QL.fa rfl (fun w => fld286_1 w _ _) rfl (QL.gd (j := 12) rfl rfl rfl (QL.load rfl (fun w h => lR (f := .bool) iy4 rb_1 (h.at_ hltb (hAb.sub 16 1))) rfl (?_)))))))))))))))))))))))
    cases hq7 : teq aa_1 ab_1 with
    | false =>
     refine QL.gd (j := 12) rfl rfl rfl (QL.binAny rfl rfl (neq4.guard ra_1 rb_1 _ _) (neq4.run' hq7 ra_1 rb_1) rfl ?_)
     refine QL.skip _ _ _ rfl (QL.next fun w1 h => W.ct rfl ?_)
     exact W.sq (W.rg (WL.an rfl rfl (WL.nx (W.ret fun a ha => bR (tR (tR (bR (tR (pR rfl ha rfl ⟨by rw [teq_at hta htb (fun e => by cases e; exact teq_ne hq7 rfl)], h⟩)))))))))
    | true =>
     refine QL.gd (j := 12) rfl rfl rfl (QL.binAny rfl rfl (neq4.guard ra_1 rb_1 _ _) (neq4.run' hq7 ra_1 rb_1) rfl (QL.pick rfl rfl rfl (QL.move rfl rfl (QL.gd (j := 25) rfl rfl rfl (QL.move rfl rfl (QL.gd (j := 25) rfl rfl rfl (QL.move rfl rfl (QL.gd (j := 25) rfl rfl rfl (QL.ix rfl rfl (fun w => hixa w Tryz.underlying67 iy286 rfl) rfl (QL.gd (j := 25) rfl rfl rfl (QL.fa rfl (fun w => fld286_2 w _ _) rfl (QL.gd (j := 25) rfl rfl rfl (QL.load rfl (fun w h => lR (f := .bool) iy4 ra_2 (h.at_ hlta (hAa.sub 17 1))) rfl (QL.gd (j := 25) rfl rfl rfl (QL.move rfl rfl (QL.gd (j := 25) rfl rfl rfl (QL.move rfl rfl (QL.gd (j := 25) rfl rfl rfl (QL.ix rfl rfl (fun w => hixb w Tryz.underlying67 iy286 rfl) rfl (QL.gd (j := 25) rfl rfl rfl (QL.fa rfl (fun w => fld286_2 w _ _) rfl (QL.gd (j := 25) rfl rfl rfl (QL.load rfl (fun w h => lR (f := .bool) iy4 rb_2 (h.at_ hltb (hAb.sub 17 1))) rfl (?_))))))))))))))))))))))))
     cases hq8 : teq aa_2 ab_2 with
     | false =>
      refine QL.gd (j := 25) rfl rfl rfl (QL.binAny rfl rfl (neq4.guard ra_2 rb_2 _ _) (neq4.run' hq8 ra_2 rb_2) rfl ?_)
      refine QL.skip _ _ _ rfl (QL.next fun w1 h => W.ct rfl ?_)
      exact W.sq (W.rg (WL.an rfl rfl (WL.nx (W.ret fun a ha => bR (tR (tR (bR (tR (pR rfl ha rfl ⟨by rw [teq_at hta htb (fun e => by cases e; exact teq_ne hq8 rfl)], h⟩)))))))))
     | true =>
      refine QL.gd (j := 25) rfl rfl rfl (QL.binAny rfl rfl (neq4.guard ra_2 rb_2 _ _) (neq4.run' hq8 ra_2 rb_2) rfl (QL.pick rfl rfl rfl (QL.move rfl rfl (QL.gd (j := 38) rfl rfl rfl (QL.move rfl rfl (QL.gd (j := 38) rfl rfl rfl (QL.move rfl rfl (QL.gd (j := 38) rfl rfl rfl (QL.ix rfl rfl (fun w => hixa w Tryz.underlying67 iy286 rfl) rfl (QL.gd (j := 38) rfl rfl rfl (QL.fa rfl (fun w => fld286_3 w _ _) rfl (QL.gd (j := 38) rfl rfl rfl (QL.load rfl (fun w h => lR (f := .str) iy9 ra_3 (h.at_ hlta (hAa.sub 18 1))) rfl (QL.gd (j := 38) rfl rfl rfl (QL.move rfl rfl (QL.gd (j := 38) rfl rfl rfl (QL.move rfl rfl (QL.gd (j := 38) rfl rfl rfl (QL.ix rfl rfl (fun w => hixb w Tryz.underlying67 iy286 rfl) rfl (QL.gd (j := 38) rfl rfl rfl (QL.fa rfl (fun w => fld286_3 w _ _) rfl (QL.gd (j := 38) rfl rfl rfl (QL.load rfl (fun w h => lR (f := .str) iy9 rb_3 (h.at_ hltb (hAb.sub 18 1))) rfl (?_))))))))))))))))))))))))
      cases hq9 : teq aa_3 ab_3 with
      | false =>
       refine QL.gd (j := 38) rfl rfl rfl (QL.binAny rfl rfl (neq9.guard ra_3 rb_3 _ _) (neq9.run' hq9 ra_3 rb_3) rfl ?_)
       refine QL.skip _ _ _ rfl (QL.next fun w1 h => W.ct rfl ?_)
       exact W.sq (W.rg (WL.an rfl rfl (WL.nx (W.ret fun a ha => bR (tR (tR (bR (tR (pR rfl ha rfl ⟨by rw [teq_at hta htb (fun e => by cases e; exact teq_ne hq9 rfl)], h⟩)))))))))
      | true =>
       refine QL.gd (j := 38) rfl rfl rfl (QL.binAny rfl rfl (neq9.guard ra_3 rb_3 _ _) (neq9.run' hq9 ra_3 rb_3) rfl (QL.pick rfl rfl rfl (QL.next fun w1 h => W.cond_false rfl (W.skip fun a ha => bN (tN ?_)))))
       refine W.run ha (W.rg (WL.mv rfl rfl (WL.bi rfl rfl rfl rfl (WL.an rfl rfl (WL.nil fun a ha => tN ?_)))))
       exact ⟨(i + 1, w1), ha.weak ⟨rfl, rfl, congrArg some (inc_i64 (lt_len hil hmla)), trivial⟩, ⟨rfl, hil, h, step_eq hall hta htb (by rw [teq_eq hq6, teq_eq hq7, teq_eq hq8, teq_eq hq9])⟩, Nat.sub_lt_sub_left hil (Nat.lt_succ_self i)⟩
 · have hend : i = la.length := Nat.le_antisymm hi (Nat.le_of_not_lt (of_decide_eq_false hf))
   exact W.run ha (W.sq (W.rg (WL.an rfl rfl (WL.nx (W.ret fun a ha => pR rfl ha rfl ⟨by rw [teq_all hle hend hall], h⟩)))))
theorem s148 {t u : T} (hX : ∀ t u, SEnc 94 (.st .expr) t u) : SEnc 148 (.list (.st .source)) t u := by
 intro w S cs ds hr hk
 obtain ⟨la, rfl⟩ := hr.is_list
 obtain ⟨lb, rfl⟩ := hk.is_list
 obtain ⟨ga, capa, hva, hmla, hgeta⟩ := list_at hr
 obtain ⟨gb, capb, hvb, hmlb, hgetb⟩ := list_at hk
 rw [hva, hvb]
 refine cW 43 Tryz.func148 rfl rfl rfl ?_
 refine W.sq (W.rg (WL.an rfl rfl (WL.nx ?_)))
 refine W.sq (W.sq (W.rg (WL.mv rfl rfl (WL.len rfl (lS Tryz.underlying69) rfl (WL.mv rfl rfl (WL.len rfl (lS Tryz.underlying69) rfl (WL.bi rfl rfl (run_neq (c := decide (la.length ≠ lb.length)) neq_cast) rfl (WL.nx (W.cond rfl (fun ht => ?_) (fun hf => W.skip fun a ha => tN ?_))))))))))
 · have hne : la.length ≠ lb.length := of_decide_eq_true ht
   refine W.sq (W.rg (WL.an rfl rfl (WL.nx (W.ret fun a ha => tR (pR rfl ha rfl ⟨by rw [teq_len hne], Fr.refl _ _⟩)))))
 have hle : la.length = lb.length := Classical.byContradiction (of_decide_eq_false hf)
 refine W.run ha (W.sq (W.sq (W.rg (WL.an rfl rfl (WL.nx ?_)))))
 refine W.bk (W.loop (ι := Nat × World) (fun i => [(0, .slice ga la.length capa), (1, .slice gb lb.length capb), (5, .int .i64 (i.1 : Int))]) (fun i w' => w' = i.2 ∧ i.1 ≤ la.length ∧ F0 w w' ∧ ∀ j, j < i.1 → la[j]? = lb[j]?) (fun i => la.length - i.1)
  (0, w) ⟨rfl, rfl, rfl, trivial⟩ ⟨rfl, Nat.zero_le _, Fr.refl _ _, fun j hj => absurd hj (Nat.not_lt_zero j)⟩ ?_)
 rintro ⟨i, _⟩ w1 ⟨rfl, hi, h, hall⟩
 simp only at hi h hall ⊢
 refine W.sq (W.sq (W.rg (WL.mv rfl rfl (WL.mv rfl rfl (WL.len rfl (lS Tryz.underlying69) rfl (WL.bi rfl rfl (run_lss (c := decide (i < la.length)) (decide_eq_decide.2 Int.ofNat_lt.symm)) rfl (WL.nx (W.cond rfl (fun ht => W.skip fun a ha => tN ?_) (fun hf => W.exit fun a ha => tE (tE (eH (tN ?_))))))))))))
 · have hil : i < la.length := of_decide_eq_true ht
   obtain ⟨ta, hta⟩ : ∃ t, la[i]? = some t := ⟨_, List.getElem?_eq_getElem hil⟩
   obtain ⟨tb, htb⟩ : ∃ t, lb[i]? = some t := ⟨_, List.getElem?_eq_getElem (hle ▸ hil)⟩
   have hwa := T.wt_mem (List.mem_of_getElem? hta)
   obtain ⟨ba, oa, da, hixa, _, hlta, hAa, ra⟩ := hgeta i ta hta
   obtain ⟨bb, ob, db, hixb, _, hltb, hAb, rb⟩ := hgetb i tb htb
   obtain ⟨fla, rfl, hlena, hFa⟩ := ra.st_inv
   obtain ⟨aa_0, fla, rfl, ra_0, hFa⟩ := hFa.cons_inv
   obtain ⟨aa_1, fla, rfl, ra_1, hFa⟩ := hFa.cons_inv
   obtain rfl := hFa.nil_inv
   simp only [Nat.zero_add, Ty.size, SN.size] at ra_0 ra_1
   obtain ⟨flb, rfl, hlenb, hFb⟩ := rb.st_inv
   obtain ⟨ab_0, flb, rfl, rb_0, hFb⟩ := hFb.cons_inv
   obtain ⟨ab_1, flb, rfl, rb_1, hFb⟩ := hFb.cons_inv
   obtain rfl := hFb.nil_inv
   simp only [Nat.zero_add, Ty.size, SN.size] at rb_0 rb_1
   refine W.run ha (W.sq (W.bk (W.sq (W.quiet (F0 w) mixed (by kernel_rfl) h.drawn ?_))))
   clear h
   refine QL.move rfl rfl (QL.move rfl rfl (QL.ix rfl rfl (fun w => hixa w Tryz.underlying69 iy290 rfl) rfl (QL.fa rfl (fun w => fld290_0 w _ _) rfl (QL.load rfl (fun w h => lR (f := .st .expr) iy66 ra_0 (h.at_ hlta (hAa.sub 0 16))) rfl (QL.move rfl rfl (QL.move rfl rfl (QL.ix rfl rfl (fun w => hixb w Tryz.underlying69 iy290 rfl) rfl (QL.fa rfl (fun w => fld290_0 w _ _) rfl (QL.load rfl (fun w h => lR (f := .st .expr) iy66 rb_0 (h.at_ hltb (hAb.sub 0 16))) rfl (?_))))))))))
   cases hq10 : teq aa_0 ab_0 with
   | false =>
    refine QL.call Tryz.call94 rfl rfl (SEnc.quiet (hX _ _) hq10 ra_0 rb_0) (QL.not rfl rfl ?_)
    refine QL.skip _ _ _ rfl (QL.next fun w1 h => W.ct rfl ?_)
    exact W.sq (W.rg (WL.an rfl rfl (WL.nx (W.ret fun a ha => bR (tR (tR (bR (tR (pR rfl ha rfl ⟨by rw [teq_at hta htb (fun e => by cases e; exact teq_ne hq10 rfl)], h⟩)))))))))
   | true =>
    refine QL.call Tryz.call94 rfl rfl (SEnc.quiet (hX _ _) hq10 ra_0 rb_0) (QL.not rfl rfl (QL.move rfl rfl (QL.gd (j := 12) rfl rfl rfl (QL.move rfl rfl (QL.gd (j := 12) rfl rfl rfl (QL.move rfl rfl (QL.gd (j := 12) rfl rfl rfl (QL.ix rfl rfl (fun w => hixa w Tryz.underlying69 iy290 rfl) rfl (QL.gd (j := 12) rfl rfl rfl (QL.fa rfl (fun w => fld290_1 w _ _) rfl (QL.gd (j := 12) rfl rfl rfl (QL.load rfl (fun w h => lR (f := .list (.st .sort)) iy67 ra_1 (h.at_ hlta (hAa.sub 16 1))) rfl (QL.gd (j := 12) rfl rfl rfl (QL.move rfl rfl (QL.gd (j := 12) rfl rfl rfl (QL.move rfl rfl (QL.gd (j := 12) rfl rfl rfl (QL.ix rfl rfl (fun w => hixb w Tryz.underlying69 iy290 rfl) rfl (QL.gd (j := 12) rfl rfl rfl (QL.fa rfl (fun w => fld290_1 w _ _) rfl (QL.gd (j := 12) rfl rfl rfl (QL.load rfl (fun w h => lR (f := .list (.st .sort)) iy67 rb_1 (h.at_ hltb (hAb.sub 16 1))) rfl (?_)))))))))))))))))))))))
    cases hq11 : teq aa_1 ab_1 with
    | false =>
     refine QL.gd (j := 12) rfl rfl rfl (QL.call Tryz.call147 rfl rfl (SEnc.quiet (s147 hX) hq11 ra_1 rb_1) (QL.gd (j := 12) rfl rfl rfl (QL.not rfl rfl ?_)))
     refine QL.skip _ _ _ rfl (QL.next fun w1 h => W.ct rfl ?_)
     exact W.sq (W.rg (WL.an rfl rfl (WL.nx (W.ret fun a ha => bR (tR (tR (bR (tR (pR rfl ha rfl ⟨by rw [teq_at hta htb (fun e => by cases e; exact teq_ne hq11 rfl)], h⟩)))))))))
    | true =>
     refine QL.gd (j := 12) rfl rfl rfl (QL.call Tryz.call147 rfl rfl (SEnc.quiet (s147 hX) hq11 ra_1 rb_1) (QL.gd (j := 12) rfl rfl rfl (QL.not rfl rfl (QL.pick rfl rfl rfl (QL.next fun w1 h => W.cond_false rfl (W.skip fun a ha => bN (tN ?_)))))))
     refine W.run ha (W.rg (WL.mv rfl rfl (WL.bi rfl rfl rfl rfl (WL.an rfl rfl (WL.nil fun a ha => tN ?_)))))
     exact ⟨(i + 1, w1), ha.weak ⟨rfl, rfl, congrArg some (inc_i64 (lt_len hil hmla)), trivial⟩, ⟨rfl, hil, h, step_eq hall hta htb (by rw [teq_eq hq10, teq_eq hq11])⟩, Nat.sub_lt_sub_left hil (Nat.lt_succ_self i)⟩
 · have hend : i = la.length := Nat.le_antisymm hi (Nat.le_of_not_lt (of_decide_eq_false hf))
   exact W.run ha (W.sq (W.rg (WL.an rfl rfl (WL.nx (W.ret fun a ha => pR rfl ha rfl ⟨by rw [teq_all hle hend hall], h⟩)))))
end Go.Sx
