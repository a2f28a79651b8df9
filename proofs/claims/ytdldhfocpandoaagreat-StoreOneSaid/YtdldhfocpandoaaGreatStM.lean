import Derived.Test.YtdldhfocpandoaaGreatStI
/- DERIVED. StoreOne, walked. -/
namespace Go.Sx
open Go.Proofs

theorem err_ne {bs : List UInt8} : errOf bs ≠ 0 := by
  unfold errOf; split
  · decide
  · split
    · decide
    · split <;> decide

/-- append of some bytes, none at all too. -/
theorem append_some {w : World} {v x : Value} {xs ys : List UInt8} {ty : TypeId} (r : Row w v xs) (hs : Bts w x ys) (hl : xs.length + ys.length ≤ 2 ^ 46) : ∃ v' w', (Builtin.append_ #[22, 22] ty #[v, x]).run Tryz.prog w = .ok v' w' ∧
    Bts w' v' (xs ++ ys) ∧ Fr (ownB v) w (ownB v') w' := by
  by_cases hy : 0 < ys.length
  · obtain ⟨v', w', h1, h2, h3⟩ := append_row (ty := ty) r hs.src hl hy
    exact ⟨v', w', h1, Bts.of_row h2, h3⟩
  · have hy0 : ys = [] := List.eq_nil_of_length_eq_zero (by omega)
    subst hy0
    obtain ⟨i, hi, hz, hs1, hb⟩ := info_of info5
    rcases r with r | ⟨b, rfl, hb, ha⟩
    · obtain ⟨v', w', h1, h2, h3⟩ := append_bytes (ty := ty) r hs.src hl
      exact ⟨v', w', h1, Bts.of_row h2, h3⟩
    · have hsrc := hs.src
      refine ⟨_, w, ?_, ?_, Fr.refl _ _⟩
      · have h1 : i.size = 1 := hs1
        have hc := hsrc.cells
        have hn := hsrc.len
        simp only [List.length_nil, List.map_nil] at hc hn
        rcases hsrc.kind with ⟨e', hk⟩ | hk
        · simp [Builtin.append_, run_underlying Tryz.underlying22, sizeOf, typeInfo, hi, hn, h1, hc, storeCells]
        · simp [Builtin.append_, run_underlying Tryz.underlying22, sizeOf, typeInfo, hi, hn, h1, hc, storeCells]
      · rw [List.append_nil]
        refine ⟨by simp only [List.length_nil] at hl; simp only [maxLen]; omega, .inr ⟨b, 0, xs.length, rfl, hb, ha, Nat.le_refl _⟩⟩

/-- One round: what the bytes x are read as is what they are the bytes of. -/
def oneEnv (v : Value) (b j : Nat) : Env := [(0, v), (19, .slice (some ⟨b, 0, none⟩) 2 2), (20, .int .i64 2), (21, .int .i64 (j : Int))]

theorem ty22' : IsTy Tryz.prog 22 false 1 := ⟨Tryz.isAgg22, Tryz.sizeOf22⟩

set_option maxHeartbeats 1000000 in
set_option maxRecDepth 4000 in
theorem c6 {w : World} {v : Value} {bs : List UInt8} (hB : Bts w v bs) : Calls Tryz.prog 6 [v].toArray w (End (fun r w' => r = .bool true ∧ Fr (fun _ => False) w (fun _ => False) w') (fun _ _ => False)) := by
  have hml : bs.length ≤ 9223372036854775807 := by have := hB.1; simpa [maxLen] using this
  obtain ⟨g, cap, rfl, _⟩ := hB.val
  refine calls_W 52 Tryz.func6 rfl rfl rfl ?_
  refine W.seq (W.region (WL.assign rfl rfl (WL.next ?_)))
  refine W.seq (W.seq (W.region (WL.move rfl rfl (WL.len rfl (len_slice Tryz.underlying22) rfl (WL.binInt rfl rfl (run_gtr (c := decide (3000 < bs.length)) (decide_eq_decide.2 (by omega))) rfl (WL.next (W.cond rfl (fun ht => ?_) (fun hf => W.skip fun a ha => then_normal ?_))))))))
  · refine W.seq (W.region (WL.call Tryz.call13 rfl rfl c13 ?_ (fun _ _ h => h.elim)))
    rintro _ w1 ⟨rfl, f1⟩
    exact WL.assign rfl rfl (WL.next (W.ret fun a ha => then_ret (post_ret1 rfl ha rfl ⟨rfl, f1⟩)))
  have hle : bs.length ≤ 3000 := by have := of_decide_eq_false hf; omega
  refine W.run ha (W.seq (W.seq (W.region (WL.move rfl rfl (WL.buildSlice rfl lit_magic rfl (WL.convert rfl (Go.Lib.run_convert_bytes_const w 22 5 _ 4 4 Tryz.underlying22 Tryz.underlying5) rfl ?_))))))
  have r1 : Row (w.alloc (.cells (magicB.map bv).toArray 5 ((magicB.map bv).toArray.size, (magicB.map bv).toArray.size + 1))) (.slice (some ⟨w.heap.size, 0, none⟩) 4 4) magicB := row_magic
  have f1 : Fr (fun _ => False) w (fun _ => False) (w.alloc (.cells (magicB.map bv).toArray 5 ((magicB.map bv).toArray.size, (magicB.map bv).toArray.size + 1))) := Fr.alloc _ _ _
  have hn1 : ∀ x, ownB (.slice (some ⟨w.heap.size, 0, none⟩) 4 4) x → w.heap.size ≤ x := by
    intro x hx
    have : w.heap.size = x := by simpa [ownB, Value.ownBlock] using hx
    omega
  generalize w.alloc (.cells (magicB.map bv).toArray 5 ((magicB.map bv).toArray.size, (magicB.map bv).toArray.size + 1)) = w1 at r1 f1 ⊢
  obtain ⟨v2, w2, hr2, b2, f2⟩ := append_some (ty := 22) r1 (hB.keep0 f1) (by simp only [magicB, List.length_cons, List.length_nil]; omega)
  have g2 : Fr (fun _ => False) w (fun _ => False) w2 := ⟨f2.os.trans f1.os, f2.tape.trans f1.tape, f2.output.trans f1.output, Nat.le_trans f1.size f2.size,
    fun x hx _ => by rw [f2.blk x (Nat.lt_of_lt_of_le hx f1.size) (fun ho => by have := hn1 x ho; omega), f1.blk x hx (fun h => h)], fun _ h => h.elim⟩
  refine WL.move rfl rfl (WL.append rfl rfl hr2 rfl ?_)
  refine (WL.call Tryz.call14 rfl rfl (c14 b2 (by simp only [magicB, List.length_append, List.length_cons, List.length_nil]; omega)) ?_ (fun _ _ h => h.elim))
  rintro v3 w3 ⟨r3, f3⟩
  have b3 := Bts.of_row r3
  obtain ⟨g3, cap3, hv3, _⟩ := b3.val
  refine WL.buildSlice rfl (slice_lit2 (e := 22) Tryz.underlying25 ty22' Tryz.zeroValue22 rfl rfl (by rw [hv3]; rfl)) rfl (WL.len rfl (len_slice Tryz.underlying25) rfl (WL.move rfl rfl ?_))
  have a4 : Blk (w3.alloc (.cells [.slice g bs.length cap, v3].toArray 22)) w3.heap.size [.slice g bs.length cap, v3] 22 := Blk.alloc_new
  have f4 : Fr (fun _ => False) w3 (fun _ => False) (w3.alloc (.cells [.slice g bs.length cap, v3].toArray 22)) := Fr.alloc _ _ _
  show WL _ _ _ _ _ _ _ (w3.alloc (.cells [.slice g bs.length cap, v3].toArray 22))
  generalize w3.alloc (.cells [.slice g bs.length cap, v3].toArray 22) = w4 at a4 f4 ⊢
  generalize w3.heap.size = bb at a4 ⊢
  have G4 : Fr (fun _ => False) w (fun _ => False) w4 := (g2.trans f3.none).trans f4
  have B1 : Bts w4 (.slice g bs.length cap) bs := hB.keep0 G4
  have B2 : Bts w4 v3 (sealed (magicB ++ bs)) := b3.keep0 f4
  have hl2 : (sealed (magicB ++ bs)).length ≤ 3008 := by rw [sealed_len]; simp only [magicB, List.length_append, List.length_cons, List.length_nil]; omega
  refine WL.keep (oneEnv (.slice g bs.length cap) bb 0) ⟨rfl, rfl, rfl, rfl, trivial⟩ ?_
  clear hr2 r1 f1 f2 b2 g2 r3 f3 f4
  refine W.block (W.loop (ι := Nat × World) (fun i => oneEnv (.slice g bs.length cap) bb i.1) (fun i w' => w' = i.2 ∧ i.1 ≤ 2 ∧ Fr (fun _ => False) w4 (fun _ => False) w') (fun i => 2 - i.1) (0, w4) ⟨rfl, rfl, rfl, rfl, trivial⟩ ⟨rfl, by omega, Fr.refl _ _⟩ ?_)
  rintro ⟨j, _⟩ w5 ⟨rfl, hj, f5⟩
  simp only at hj f5 ⊢
  refine W.seq (W.region (WL.binInt rfl rfl (run_lss (c := decide (j < 2)) (decide_eq_decide.2 (by omega))) rfl (WL.next (W.seq (W.cond rfl (fun ht => W.skip fun a ha => then_normal ?_) (fun hf => W.exit fun a ha => then_exit (then_exit (exit_here (then_normal ?_)))))))))
  · have hlt : j < 2 := of_decide_eq_true ht
    have a5 : Blk w5 bb [.slice g bs.length cap, v3] 22 := (f5.blk bb a4.lt (fun h => h)).trans a4
    obtain ⟨vx, xs, hx, hBx, hlx⟩ : ∃ vx xs, [Value.slice g bs.length cap, v3][j]? = some vx ∧ Bts w5 vx xs ∧ xs.length ≤ 3008 := by
      rcases (show j = 0 ∨ j = 1 by omega) with rfl | rfl
      · exact ⟨_, _, rfl, B1.keep0 f5, by omega⟩
      · exact ⟨_, _, rfl, B2.keep0 f5, hl2⟩
    have hidx : ∀ w, (Instr.indexAt 25 (.slice (some ⟨bb, 0, none⟩) 2 2) (.int .i64 (j : Int))).run Tryz.prog w = .ok (.pointer (some ⟨bb, 0 + (j : Int).toNat * 1, none⟩)) w := fun w =>
      indexSlice Tryz.underlying25 ty22' (by omega) (by omega)
    have hcell : w5.cell? ⟨bb, 0 + (j : Int).toNat * 1, none⟩ = some vx := by rw [a5.cell]; simpa using hx
    refine W.run ha (W.seq (W.block ?_))
    refine W.seq (W.region (WL.indexAddr rfl rfl (hidx _) rfl (WL.load rfl (load1 ty22' hcell) rfl (WL.assign rfl rfl (WL.next ?_)))))
    refine W.seq (W.region (WL.move rfl rfl (WL.call Tryz.call15 rfl rfl (c15 hBx) ?_ (fun _ _ h => h.elim))))
    rintro _ w6 ⟨cs, e, rfl, f6, hd⟩
    have hinc : Value.int .i64 (IntKind.i64.wrap ((j : Int) + 1)) = Value.int .i64 ((j + 1 : Nat) : Int) := inc_i64 (by omega)
    rcases hd with ⟨t, hok, rfl, r6⟩ | ⟨_, he, rfl⟩
    · have hone := Rep.one _ _ _ r6
      obtain ⟨w7, hst7, b7, f7⟩ := put_sheet (w := w6) (cs := cs) hone.1 hone.2
      refine WL.move rfl rfl (WL.extract rfl rfl rfl (WL.extract rfl rfl rfl (WL.alloc (zero36 _) rfl (WL.store rfl rfl hst7 (WL.assign rfl rfl (WL.next ?_))))))
      refine W.seq (W.seq (W.region (WL.move rfl rfl (WL.binInt rfl rfl (run_neq (c := false) rfl) rfl (WL.next (W.cond_false rfl (W.skip fun a ha => then_normal ?_)))))))
      have hwt := wt_dec hok
      have hmul : (xs.length + 2) * xs.length ≤ 3010 * 3008 := Nat.mul_le_mul (by omega) hlx
      refine W.run ha (W.seq (W.region (WL.load rfl (loadN ⟨Tryz.isAgg36, Tryz.sizeOf36⟩ hone.1 b7.all) rfl (WL.call Tryz.call23 rfl rfl (c23 (r6.fresh f7) (by omega)) ?_ (fun _ _ h => h.elim)))))
      rintro v8 w8 ⟨vb, f8, h8⟩
      rw [encode_of_dec hok] at h8
      obtain ⟨rfl, h8⟩ := h8
      have f57 := f6.trans f7
      have hs1 := bts_string (Bts.of_row h8)
      have hs2 := bts_string ((hBx.keep0 f57).keep0 f8.none)
      refine WL.move rfl rfl (WL.extract rfl rfl rfl (WL.extract rfl rfl rfl (WL.assign rfl rfl (WL.assign rfl rfl (WL.next ?_)))))
      refine W.seq (W.region (WL.move rfl rfl (WL.binInt rfl rfl (run_neq (c := false) rfl) rfl (WL.move rfl rfl ?_))))
      refine WL.guarded (j := 2) rfl rfl rfl (WL.move rfl rfl (WL.guarded (j := 2) rfl rfl rfl (WL.convert rfl hs1 rfl (WL.guarded (j := 2) rfl rfl rfl (WL.move rfl rfl ?_)))))
      refine WL.guarded (j := 2) rfl rfl rfl (WL.convert rfl hs2 rfl (WL.guarded (j := 2) rfl rfl rfl (WL.binStr rfl rfl run_neq_same rfl (WL.pick rfl rfl rfl (WL.next ?_)))))
      refine W.cond_false rfl (W.skip fun a ha => block_normal (then_normal ?_))
      refine W.run ha (W.region (WL.binInt rfl rfl rfl rfl (WL.move rfl rfl (WL.nil fun a ha => then_normal ?_))))
      exact ⟨(j + 1, w8), ha.weak ⟨rfl, rfl, rfl, congrArg some hinc, trivial⟩, ⟨rfl, hlt, (f5.trans f57).trans f8.none⟩, by show 2 - (j + 1) < 2 - j; omega⟩
    · have hne : e ≠ 0 := by rw [he]; exact err_ne
      obtain ⟨w7, hst7, b7, f7⟩ := put_sheet (w := w6) (cs := zsheet) rfl zsheet_one
      refine WL.move rfl rfl (WL.extract rfl rfl rfl (WL.extract rfl rfl rfl (WL.alloc (zero36 _) rfl (WL.store rfl rfl hst7 (WL.assign rfl rfl (WL.next ?_))))))
      refine W.seq (W.seq (W.region (WL.move rfl rfl (WL.binInt rfl rfl (run_neq (c := true) (by simp [hne])) rfl (WL.next (W.cond_true rfl ?_))))))
      refine W.seq (W.seq (W.region (WL.load rfl (loadN ⟨Tryz.isAgg36, Tryz.sizeOf36⟩ rfl b7.all) rfl (WL.build rfl run_zsheet rfl (WL.call Tryz.call21 rfl rfl (c21 (S := fun _ => False) rep_zero rep_zero (by decide) (by decide)) ?_ (fun _ _ h => h.elim))))))
      rintro _ w8 ⟨rfl, f8⟩
      rw [same_zero]
      refine WL.not rfl rfl (WL.next (W.cond_false rfl (W.skip fun a ha => then_normal ?_)))
      refine W.run ha (W.exit fun a ha => then_exit (exit_here (then_normal ?_)))
      refine W.run ha (W.region (WL.binInt rfl rfl rfl rfl (WL.move rfl rfl (WL.nil fun a ha => then_normal ?_))))
      exact ⟨(j + 1, w8), ha.weak ⟨rfl, rfl, rfl, congrArg some hinc, trivial⟩, ⟨rfl, hlt, ((f5.trans f6).trans f7).trans f8⟩, by show 2 - (j + 1) < 2 - j; omega⟩
  · have hj2 : j = 2 := by have := of_decide_eq_false hf; omega
    subst hj2
    refine W.run ha (W.seq (W.region (WL.call Tryz.call13 rfl rfl c13 ?_ (fun _ _ h => h.elim))))
    rintro _ w6 ⟨rfl, f6⟩
    exact WL.assign rfl rfl (WL.next (W.ret fun a ha => post_ret1 rfl ha rfl ⟨rfl, (G4.trans f5).trans f6⟩))
end Go.Sx
