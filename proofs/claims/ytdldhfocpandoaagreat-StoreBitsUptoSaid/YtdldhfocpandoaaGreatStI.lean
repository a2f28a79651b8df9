import Derived.Test.YtdldhfocpandoaaGreatStH
import Derived.Laws.OwnMore
namespace Go.Sx
def bytesP : ByteArray := ⟨#[112]⟩
def bytesF : ByteArray := ⟨#[102, 97, 105, 108]⟩
def modeT : T := .agg .mode [.str bytesP, .str bytesF, .bool false, .bool false, .str ⟨#[]⟩, .int 0]
def workT : T := .agg .sheet [.str bytesP, .list [], .list [], .list [], .list [], .list [], .list [], .list [modeT, modeT], .list [], .list []]
theorem n0 : num 0 = [0] := num_lt (by decide)
theorem n1 : num 1 = [1] := num_lt (by decide)
theorem n2 : num 2 = [2] := num_lt (by decide)
theorem n3 : num 3 = [3] := num_lt (by decide)
theorem n4 : num 4 = [4] := num_lt (by decide)
theorem enc_zero {most long : Nat} (hm : 1 ≤ most) : enc most long zeroT ws0 = some ⟨[0, 0, 0, 0, 0, 0, 0, 0, 0, 0], [⟨#[]⟩], 0⟩ := by
 have h : ¬ (most < 0 + 1 ∨ long < 0) := by omega
 simp only [zeroT, enc, encL, SN.deep, ws0, WS.str, WS.num, List.findIdx?_nil, List.length_nil, n0, Option.bind_some, List.nil_append, if_neg h, Option.map_some, List.cons_append]
theorem ne_pf : (bytesP = bytesF) = False := by simp [bytesP, bytesF]
theorem ne_pe : (bytesP = ⟨#[]⟩) = False := by simp [bytesP]
theorem ne_fe : (bytesF = ⟨#[]⟩) = False := by simp [bytesF]
theorem zig0 : zig 0 = 0 := by decide
theorem enc_work {most long : Nat} (hm : 1 ≤ most) : enc most long workT ws0 = some ⟨[0, 0, 0, 0, 0, 0, 0, 2, 0, 1, 0, 0, 2, 0, 0, 1, 0, 0, 2, 0, 0, 0], [bytesP, bytesF, ⟨#[]⟩], 0⟩ := by
 have h : ¬ most = 0 := by omega
 simp [workT, modeT, enc, encL, SN.deep, ws0, WS.str, WS.num, n0, n1, n2, h, ne_pf, ne_pe, ne_fe, zig0, List.findIdx?_cons]
def zeroB : List UInt8 := [67, 72, 83, 76, 1, 0, 0, 0, 0, 0, 0, 0, 0, 0, 0, 0]
def workB : List UInt8 := [67, 72, 83, 76, 3, 1, 112, 4, 102, 97, 105, 108, 0, 0, 0, 0, 0, 0, 0, 0, 2, 0, 1, 0, 0, 2, 0, 0, 1, 0, 0, 2, 0, 0, 0]
theorem le4_len (x : BitVec 32) : (le4 x).length = 4 := rfl
theorem encode_zero : encodeOf zeroT = some (sealed zeroB) := by
 have hf : fullOf ⟨[0, 0, 0, 0, 0, 0, 0, 0, 0, 0], [⟨#[]⟩], 0⟩ = sealed zeroB := by
  unfold fullOf
  simp only [List.length_cons, List.length_nil, Nat.zero_add, n1, entries, entry, List.append_nil]
  have : (⟨#[]⟩ : ByteArray).size = 0 := rfl
  rw [this, n0]; rfl
 unfold encodeOf bytesOf
 rw [enc_zero (by decide)]
 simp only [Option.bind_some, hf]
 rw [if_neg (by simp)]
 simp only [Option.bind_some]
 rw [if_neg (by unfold sealed; simp [le4_len, zeroB])]
theorem encode_work : encodeOf workT = some (sealed workB) := by
 have hf : fullOf ⟨[0, 0, 0, 0, 0, 0, 0, 2, 0, 1, 0, 0, 2, 0, 0, 1, 0, 0, 2, 0, 0, 0], [bytesP, bytesF, ⟨#[]⟩], 0⟩ = sealed workB := by
  unfold fullOf
  simp only [List.length_cons, List.length_nil, Nat.zero_add, Nat.reduceAdd, n3, entries, entry, List.append_nil]
  have h1 : (⟨#[]⟩ : ByteArray).size = 0 := rfl
  have h2 : bytesP.size = 1 := rfl
  have h3 : bytesF.size = 4 := rfl
  rw [h1, h2, h3, n0, n1, n4]; rfl
 unfold encodeOf bytesOf
 rw [enc_work (by decide)]
 simp only [Option.bind_some, hf]
 rw [if_neg (by simp)]
 simp only [Option.bind_some]
 rw [if_neg (by unfold sealed; simp [le4_len, workB])]
theorem dec_uniq {bs : List UInt8} {t t' : T} (h : DecOk bs t) (h' : DecOk bs t') : t = t' := by
 obtain ⟨tab, r, s', hb, _, hc, _⟩ := h.parse
 obtain ⟨tab', r', s'', hb', _, hc', _⟩ := h'.parse
 obtain ⟨rfl, rfl⟩ := tab_uniq (hb.symm.trans hb')
 exact (chk_det _ _ _ _ _ _ hc hc').1
theorem kd_work : Kd workT (.st .sheet) := by
 simp [workT, modeT, Kd, KdL, KdF, SN.fields, isInt]
theorem dec_work : DecOk (sealed workB) workT := dec_of_encode kd_work encode_work
end Go.Sx
namespace Go.Sx
open Go.Proofs
def modeC : List Value := [.string bytesP, .string bytesF, .bool false, .bool false, .string ⟨#[]⟩, .int .i64 0]
def workC (b : Nat) : List Value := [.string bytesP, .slice none 0 0, .slice none 0 0, .slice none 0 0, .slice none 0 0, .slice none 0 0, .slice none 0 0, .slice (some ⟨b, 0, none⟩) 2 2, .slice none 0 0, .slice none 0 0]
theorem run_mode {w : World} : (Instr.build 84 #[(0, .string bytesP), (1, .string bytesF)]).run Tryz.prog w = .ok (.agg modeC.toArray) w := by
 simp [Instr.build, Tryz.zeroValue84, Tryz.runUnderlying84, Value.cells, Instr.fill, Tryz.sizeOf9, modeC]
theorem run_work {w : World} {b : Nat} : (Instr.build 36 #[(0, .string bytesP), (7, .slice (some ⟨b, 0, none⟩) 2 2)]).run Tryz.prog w = .ok (.agg (workC b).toArray) w := by
 simp [Instr.build, Tryz.zeroValue36, Tryz.runUnderlying36, Value.cells, Instr.fill, Tryz.sizeOf9, Tryz.sizeOf32, workC]
theorem run_modes {w : World} : (Instr.buildSlice 32 2 #[(0, .agg modeC.toArray), (1, .agg modeC.toArray)]).run Tryz.prog w = .ok (.slice (some ⟨w.heap.size, 0, none⟩) 2 2) (w.alloc (.cells (modeC ++ modeC).toArray 84)) := by
 obtain ⟨bytes, ⟨i, z, h1, h2, h3, h4, h5⟩, _⟩ : ∃ bytes, EInfo Tryz.prog 84 6 bytes ∧ bytes ≤ 4096 := einfo_le (by kernel_rfl)
 refine run_buildSlice w 32 84 2 _ _ i z Tryz.underlying32 h1 h2 (by rw [h4]; decide) (by rw [h4]; decide) ?_
 rw [h4]
 have := Go.Great.fill_whole (s := 6) (by decide) [.agg modeC.toArray, .agg modeC.toArray] ((Array.range (2 * 6)).map (z.cells[· % z.cells.size]!)) (by simp [Value.cells, modeC]) (by simp)
 simpa [Value.cells] using this
theorem rep_work {w : World} {b : Nat} (hb : Blk w b (modeC ++ modeC) 84) : Rep w (fun k => k = b) workT (.st .sheet) (workC b) := by
 have hm : ∀ o, At w b o modeC → (∃ ds, At w b o ds ∧ ds.length = Ty.size (.st .mode) ∧ Rep w (fun k => k = b) modeT (.st .mode) ds) := by
  intro o ha
  refine ⟨modeC, ha, rfl, ?_⟩
  have hp : bytesP.size ≤ maxLen := Nat.le_trans (show bytesP.size ≤ 4 by decide) (by simp [maxLen])
  have hf : bytesF.size ≤ maxLen := Nat.le_trans (show bytesF.size ≤ 4 by decide) (by simp [maxLen])
  simp only [modeT, modeC, Rep, RepF, SN.fields, SN.size, Ty.size, List.length_cons, List.length_nil, List.drop_succ_cons, List.drop_zero, List.take_succ_cons, List.take_zero, Nat.reduceAdd, true_and, and_true]
  exact ⟨hp, hf, Nat.zero_le _, by unfold isInt; decide⟩
 have hl : RepL w (fun k => k = b) (.st .mode) [modeT, modeT] b 0 := by
  simp only [RepL]
  exact ⟨hm 0 hb.all.left, hm _ (by have := hb.all.right; exact this), trivial⟩
 have hp : bytesP.size ≤ maxLen := Nat.le_trans (show bytesP.size ≤ 4 by decide) (by simp [maxLen])
 simp only [workT, workC, Rep, RepF, SN.fields, SN.size, Ty.size, List.length_cons, List.length_nil, List.drop_succ_cons, List.drop_zero, List.take_succ_cons, List.take_zero, Nat.reduceAdd, nilSl0, true_and, and_true, true_or]
 exact ⟨hp, .inr ⟨b, 0, 2, rfl, rfl, hb.lt, Nat.le_refl _, by simp [maxLen], hl⟩⟩
theorem sealed_take (bs : List UInt8) : (sealed bs).take bs.length = bs := by unfold sealed; exact List.take_left
theorem sealed_len (bs : List UInt8) : (sealed bs).length = bs.length + 4 := by unfold sealed; rw [List.length_append, le4_len]
theorem run_eql_str {P : Program} {w : World} {t : TypeId} {x y : ByteArray} : (binOp .eql t (.string x) (.string y)).run P w = .ok (.bool (decide (x = y))) w := by
 have h1 : binOp .eql t (.string x) (.string y) = pure (.bool (x.toList == y.toList)) := rfl
 have h2 : (x.toList == y.toList) = decide (x = y) := by
  rw [Go.Lib.toList_data, Go.Lib.toList_data, Bool.eq_iff_iff]
  simp only [beq_iff_eq, decide_eq_true_eq]
  exact ⟨toList_inj, fun e => by rw [e]⟩
 rw [h1, h2]; rfl
theorem run_neq_same {P : Program} {w : World} {t : TypeId} {x : ByteArray} : (binOp .neq t (.string x) (.string x)).run P w = .ok (.bool false) w := by
 rw [run_neq_str]; simp
theorem run_eql_same {P : Program} {w : World} {t : TypeId} {x : ByteArray} : (binOp .eql t (.string x) (.string x)).run P w = .ok (.bool true) w := by
 rw [run_eql_str]; simp
set_option maxHeartbeats 2000000 in
set_option maxRecDepth 4000 in
theorem c13 {w : World} : Calls Tryz.prog 13 ([] : List Value).toArray w (End (fun v w' => v = .bool true ∧ Fr (fun _ => False) w (fun _ => False) w') (fun _ _ => False)) := by
 refine cW 81 Tryz.func13 rfl rfl rfl ?_
 refine W.sq (W.rg (WL.an rfl rfl (WL.nx ?_)))
 refine W.sq (W.rg (WL.build rfl run_zsheet rfl (WL.cl Tryz.call23 rfl rfl (c23 (S := fun _ => False) rep_zero (by decide)) ?_ nop)))
 rintro _ w1 ⟨va, f1, h1⟩
 rw [encode_zero] at h1
 obtain ⟨rfl, ra⟩ := h1
 refine WL.mv rfl rfl (WL.extract rfl rfl rfl (WL.extract rfl rfl rfl (WL.an rfl rfl (WL.an rfl rfl (WL.kp [(1, va), (2, .int .i64 0)] ⟨rfl, rfl, trivial⟩ ?_)))))
 refine W.sq (W.rg (WL.build rfl run_mode rfl (WL.build rfl run_mode rfl (WL.buildSlice rfl run_modes rfl (WL.build rfl run_work rfl ?_)))))
 have b2 : Blk (w1.alloc (.cells (modeC ++ modeC).toArray 84)) w1.heap.size (modeC ++ modeC) 84 := Blk.alloc_new
 have f2 : Fr (fun _ => False) w1 (fun _ => False) (w1.alloc (.cells (modeC ++ modeC).toArray 84)) := Fr.alloc _ _ _
 generalize w1.alloc (.cells (modeC ++ modeC).toArray 84) = w2 at b2 f2 ⊢
 refine WL.cl Tryz.call23 rfl rfl (c23 (rep_work b2) (by decide)) ?_ nop
 rintro _ w3 ⟨vb, f3, h3⟩
 rw [encode_work] at h3
 obtain ⟨rfl, rb⟩ := h3
 refine WL.mv rfl rfl (WL.extract rfl rfl rfl (WL.extract rfl rfl rfl (WL.an rfl rfl (WL.an rfl rfl (WL.kp [(1, va), (2, .int .i64 0), (3, vb), (4, .int .i64 0)] ⟨rfl, rfl, rfl, rfl, trivial⟩ ?_)))))
 have ra3 := ownsRow_agree ra (fun k hk => (f3.blk k (Nat.lt_of_lt_of_le (ownsRow_own_lt ra hk) f2.size) (fun h => h)).trans (f2.blk k (ownsRow_own_lt ra hk) (fun h => h)))
 have F3 : Fr (fun _ => False) w (fun _ => False) w3 := (f1.none.trans f2).trans f3.none
 have hA := Bts.of_row ra3
 have hB := Bts.of_row rb
 have la : (sealed zeroB).length = 20 := sealed_len _
 have lb : (sealed workB).length = 39 := sealed_len _
 obtain ⟨va', hsa, hba, _⟩ := bts_slice hA (lo := none) (hi := some (.int .i64 16)) (l := 0) (k := 16) (.inl ⟨rfl, rfl⟩) (.inr rfl) (Nat.zero_le _) (by omega)
 obtain ⟨vb', hsb, hbb, _⟩ := bts_slice hB (lo := none) (hi := some (.int .i64 35)) (l := 0) (k := 35) (.inl ⟨rfl, rfl⟩) (.inr rfl) (Nat.zero_le _) (by omega)
 rw [List.drop_zero, show (sealed zeroB).take 16 = zeroB from sealed_take zeroB] at hba
 rw [List.drop_zero, show (sealed workB).take 35 = workB from sealed_take workB] at hbb
 obtain ⟨ga, ca, hva, _⟩ := hA.val
 obtain ⟨gb, cb, hvb, _⟩ := hB.val
 rw [la] at hva; rw [lb] at hvb
 subst hva hvb
 refine W.sq (W.rg (WL.an rfl rfl (WL.nx ?_)))
 refine W.sq (W.sq (W.rg (WL.mv rfl rfl (WL.bi rfl rfl (run_neq (c := false) rfl) rfl (WL.mv rfl rfl ?_)))))
 refine WL.gd (j := 2) rfl rfl rfl (WL.mv rfl rfl (WL.gd (j := 2) rfl rfl rfl (WL.bi rfl rfl (run_neq (c := false) rfl) rfl (WL.pick rfl rfl rfl (WL.mv rfl rfl ?_)))))
 refine WL.gd (j := 6) rfl rfl rfl (WL.mv rfl rfl (WL.gd (j := 6) rfl rfl rfl (WL.len rfl (lS Tryz.underlying22) rfl (WL.gd (j := 6) rfl rfl rfl (WL.bi rfl rfl (run_neq (c := false) rfl) rfl (WL.pick rfl rfl rfl (WL.mv rfl rfl ?_)))))))
 refine WL.gd (j := 11) rfl rfl rfl (WL.mv rfl rfl (WL.gd (j := 11) rfl rfl rfl (WL.slice (vl := none) (vh := some (.int .i64 16)) rfl rfl rfl (hsa _) rfl (WL.gd (j := 11) rfl rfl rfl (WL.convert rfl (bts_string hba) rfl (WL.gd (j := 11) rfl rfl rfl (WL.binStr rfl rfl run_neq_same rfl ?_)))))))
 refine WL.pick rfl rfl rfl (WL.mv rfl rfl ?_)
 refine WL.gd (j := 17) rfl rfl rfl (WL.mv rfl rfl (WL.gd (j := 17) rfl rfl rfl (WL.len rfl (lS Tryz.underlying22) rfl (WL.gd (j := 17) rfl rfl rfl (WL.mv rfl rfl (WL.gd (j := 17) rfl rfl rfl (WL.len rfl (len_string Tryz.underlying9) rfl ?_)))))))
 refine WL.gd (j := 17) rfl rfl rfl (WL.bi (v := .int .i64 39) rfl rfl rfl rfl (WL.gd (j := 17) rfl rfl rfl (WL.bi rfl rfl (run_neq (c := false) rfl) rfl (WL.pick rfl rfl rfl (WL.mv rfl rfl ?_)))))
 refine WL.gd (j := 25) rfl rfl rfl (WL.mv rfl rfl (WL.gd (j := 25) rfl rfl rfl (WL.mv rfl rfl (WL.gd (j := 25) rfl rfl rfl (WL.len (v := .int .i64 35) rfl (len_string Tryz.underlying9) rfl ?_)))))
 refine WL.gd (j := 25) rfl rfl rfl (WL.slice (vl := none) (vh := some (.int .i64 35)) rfl rfl rfl (hsb _) rfl (WL.gd (j := 25) rfl rfl rfl (WL.convert rfl (bts_string hbb) rfl (WL.gd (j := 25) rfl rfl rfl (WL.mv rfl rfl (WL.gd (j := 25) rfl rfl rfl (WL.binStr rfl rfl run_neq_same rfl ?_)))))))
 refine WL.pick rfl rfl rfl (WL.nx (W.cond_false rfl (W.skip fun a ha => tN ?_)))
 refine W.run ha (W.sq (W.rg (WL.mv rfl rfl (WL.cl Tryz.call15 rfl rfl (c15 hB) ?_ nop))))
 rintro _ w4 ⟨cs, e, rfl, f4, hd⟩
 rcases hd with ⟨t, ht, rfl, hrep⟩ | ⟨hno, _⟩
 rotate_left
 · exact absurd dec_work (hno _)
 obtain rfl := dec_uniq ht dec_work
 have hrep0 := hrep
 have F4 := F3.trans f4
 simp only [workT, Rep, RepF, SN.fields, Ty.size, Nat.reduceAdd] at hrep
 obtain ⟨_, hlen, ⟨h0, _⟩, _, _, _, _, _, _, h7, _⟩ := hrep
 have hlen' : cs.length = 10 := hlen
 rcases h7 with ⟨_, h7⟩ | ⟨b, o, cap, h7, hSb, hbl, _, _, hRL⟩
 · cases h7
 obtain ⟨ds, hat, hdl, hmode⟩ := RepL.get hRL (i := 1) (t := modeT) rfl
 simp only [modeT, Rep, RepF, SN.fields, Ty.size, Nat.reduceAdd] at hmode
 obtain ⟨_, _, _, ⟨hd1, _⟩, _⟩ := hmode
 refine WL.mv rfl rfl (WL.extract rfl rfl rfl (WL.extract rfl rfl rfl (WL.alloc (zero36 _) rfl ?_)))
 have a5 : Blk (w4.alloc (.cells zsheet.toArray 36)) w4.heap.size zsheet 36 := Blk.alloc_new
 have f5 : Fr (fun _ => False) w4 (fun _ => False) (w4.alloc (.cells zsheet.toArray 36)) := Fr.alloc _ _ _
 have s5 : (w4.alloc (.cells zsheet.toArray 36)).heap.size = w4.heap.size + 1 := by simp
 show WL _ _ _ _ _ _ _ (w4.alloc (.cells zsheet.toArray 36))
 generalize w4.alloc (.cells zsheet.toArray 36) = w5 at a5 f5 s5 ⊢
 have hone : ∀ x ∈ cs, x.oneCell' = true := (Rep.one _ _ _ hrep0).2
 refine WL.so rfl rfl (store36 a5 rfl hlen' hone) (WL.an rfl rfl (WL.kp [(6, ptr w4.heap.size), (7, .int .i64 0)] ⟨rfl, rfl, trivial⟩ ?_))
 have a6 : Blk (w5.setRow w4.heap.size cs.toArray) w4.heap.size cs 36 := a5.setRow _
 have k6 : (w5.setRow w4.heap.size cs.toArray).heap[b]? = w4.heap[b]? := (setRow_other _ _ _ _ (by omega)).trans (f5.blk b hbl (fun h => h))
 have F6 : Fr (fun _ => False) w (fun _ => False) (w5.setRow w4.heap.size cs.toArray) := by
  have hs := F4.size
  have := fr_fresh (v := .slice none 0 0) F4 (O := fun k => w4.heap.size ≤ k) (O' := fun k => w4.heap.size ≤ k) ((f5.drop (fun _ h => h.elim)).trans (Fr.setRow cs.toArray (Nat.le_refl _))) (fun k hk => by omega) (fun k hk => (no_own k hk).elim)
  rwa [own_nil] at this
 generalize w5.setRow w4.heap.size cs.toArray = w6 at a6 k6 F6 ⊢
 have g0 : w6.cell? ⟨w4.heap.size, 0, none⟩ = some (.string bytesP) := At.one (h0 ▸ a6.at_ 0 1)
 have g7 : w6.cell? ⟨w4.heap.size, 7, none⟩ = some (.slice (some ⟨b, o, none⟩) 2 cap) := At.one (h7 ▸ a6.at_ 7 1)
 have g1 : w6.cell? ⟨b, o + 1 * 6 + 1, none⟩ = some (.string bytesF) := by
  have := At.one (hd1 ▸ (hat.agree k6).sub 1 1)
  exact this
 have hidx : (Instr.indexAt 32 (.slice (some ⟨b, o, none⟩) 2 cap) (.int .i64 1)).run Tryz.prog w6 = .ok (.pointer (some ⟨b, o + 1 * 6, none⟩)) w6 :=
  indexSliceU (i := 1) Tryz.underlying32 iy84 (by decide)
 have ty32 : IsTy Tryz.prog 32 false 1 := iy32
 refine W.sq (W.rg (WL.mv rfl rfl (WL.bi rfl rfl (run_eql (c := true) rfl) rfl (WL.mv rfl rfl ?_))))
 refine WL.gd (j := 2) rfl rfl rfl (WL.fa rfl (fld36_0 _ _ _) rfl (WL.gd (j := 2) rfl rfl rfl (WL.ld rfl (load1 ty9 g0) rfl (WL.gd (j := 2) rfl rfl rfl (WL.binStr rfl rfl run_eql_same rfl (WL.pick rfl rfl rfl (WL.mv rfl rfl ?_)))))))
 refine WL.gd (j := 7) rfl rfl rfl (WL.fa rfl (fld36_7 _ _ _) rfl (WL.gd (j := 7) rfl rfl rfl (WL.ld rfl (load1 ty32 g7) rfl (WL.gd (j := 7) rfl rfl rfl (WL.len rfl (lS Tryz.underlying32) rfl ?_)))))
 refine WL.gd (j := 7) rfl rfl rfl (WL.bi rfl rfl (run_eql (c := true) rfl) rfl (WL.pick rfl rfl rfl (WL.mv rfl rfl ?_)))
 refine WL.gd (j := 13) rfl rfl rfl (WL.fa rfl (fld36_7 _ _ _) rfl (WL.gd (j := 13) rfl rfl rfl (WL.ld rfl (load1 ty32 g7) rfl (WL.gd (j := 13) rfl rfl rfl (WL.ix rfl rfl hidx rfl (WL.gd (j := 13) rfl rfl rfl (WL.fa rfl (fld84_1 _ _ _) rfl ?_)))))))
 refine WL.gd (j := 13) rfl rfl rfl (WL.ld rfl (load1 ty9 g1) rfl (WL.gd (j := 13) rfl rfl rfl (WL.binStr rfl rfl run_eql_same rfl (WL.pick rfl rfl rfl (WL.an rfl rfl (WL.nx (W.ret fun a ha => pR rfl ha rfl ⟨rfl, F6⟩)))))))
end Go.Sx
namespace Go.Sx
def useN : T := .agg .use [.str ⟨#[]⟩, .nil, .int 0, .int 0]
def useO : T := .agg .use [.str ⟨#[]⟩, .ptr zeroT, .int 0, .int 0]
def sheetU (u : T) : T := .agg .sheet [.str ⟨#[]⟩, .list [u], .list [], .list [], .list [], .list [], .list [], .list [], .list [], .list []]
theorem enc_useN : enc 9223372036854775807 67108864 (sheetU useN) ws0 = some ⟨[0, 1, 0, 0, 0, 0, 0, 0, 0, 0, 0, 0, 0, 0], [⟨#[]⟩], 0⟩ := by
 simp [sheetU, useN, enc, encL, SN.deep, ws0, WS.str, WS.num, n0, n1, zig0, List.findIdx?_cons]
theorem enc_useO : enc 9223372036854775807 67108864 (sheetU useO) ws0 = some ⟨[0, 1, 0, 1, 0, 0, 0, 0, 0, 0, 0, 0, 0, 0, 0, 0, 0, 0, 0, 0, 0, 0, 0, 0], [⟨#[]⟩], 0⟩ := by
 simp [sheetU, useO, zeroT, enc, encL, SN.deep, ws0, WS.str, WS.num, n0, n1, zig0, List.findIdx?_cons]
theorem bytes_useN : bytesOf 9223372036854775807 67108864 (sheetU useN) = some (fullOf ⟨[0, 1, 0, 0, 0, 0, 0, 0, 0, 0, 0, 0, 0, 0], [⟨#[]⟩], 0⟩) := by
 unfold bytesOf; rw [enc_useN]; simp only [Option.bind_some]; rw [if_neg (by simp)]
theorem bytes_useO : bytesOf 9223372036854775807 67108864 (sheetU useO) = some (fullOf ⟨[0, 1, 0, 1, 0, 0, 0, 0, 0, 0, 0, 0, 0, 0, 0, 0, 0, 0, 0, 0, 0, 0, 0, 0], [⟨#[]⟩], 0⟩) := by
 unfold bytesOf; rw [enc_useO]; simp only [Option.bind_some]; rw [if_neg (by simp)]
theorem bytes_zero : bytesOf 9223372036854775807 67108864 zeroT = some (fullOf ⟨[0, 0, 0, 0, 0, 0, 0, 0, 0, 0], [⟨#[]⟩], 0⟩) := by
 unfold bytesOf; rw [enc_zero (by decide)]; simp only [Option.bind_some]; rw [if_neg (by simp)]
theorem same_zero : sameOf zeroT zeroT = true := by unfold sameOf; rw [bytes_zero]; simp
theorem same_use : sameOf (sheetU useO) (sheetU useO) = true := by unfold sameOf; rw [bytes_useO]; simp
theorem same_not : sameOf (sheetU useO) (sheetU useN) = false := by
 unfold sameOf; rw [bytes_useO, bytes_useN]
 simp only [decide_eq_false_iff_not]
 intro e
 have := congrArg List.length e
 simp [fullOf, sealed, le4_len] at this
def badB (c : UInt8) : List UInt8 := [67, 72, 83, 76, c, 0, 0, 0, 0, 0, 0, 0, 0, 0, 0, 0, 0]
theorem body_sealed {bs : List UInt8} (_h : 4 ≤ bs.length) : body (sealed bs) = bs.drop 4 := by
 unfold body
 rw [sealed_len, Nat.add_sub_cancel, sealed_take]
theorem err_bad (c : UInt8) : errOf (sealed (badB c)) = 5 := by
 have hl : (sealed (badB c)).length = 21 := sealed_len _
 have ht : (sealed (badB c)).take ((sealed (badB c)).length - 4) = badB c := by rw [hl]; exact sealed_take (badB c)
 unfold errOf
 rw [if_neg (by omega), ht, if_neg (by rintro (h | h); omega; exact h rfl), if_neg (by simp)]
theorem bad_128 : ∀ t, ¬ DecOk (sealed (badB 128)) t := by
 intro t h
 obtain ⟨tab, r, s', hb, _⟩ := h.parse
 rw [body_sealed (by simp [badB]), List.append_assoc] at hb
 have hb' : (128 : UInt8) :: 0 :: List.replicate 11 0 = num tab.length ++ (entries tab ++ r) := hb
 rcases num_head hb' with ⟨h1, _⟩ | ⟨_, m', hp, _, h2⟩
 · simp at h1
 · rcases num_head h2 with ⟨_, h3, _⟩ | ⟨h3, _⟩
   · simp at h3; omega
   · simp at h3
theorem bad_2 : ∀ t, ¬ DecOk (sealed (badB 2)) t := by
 intro t h
 obtain ⟨tab, r, s', hb, hn, _⟩ := h.parse
 rw [body_sealed (by simp [badB]), List.append_assoc] at hb
 have hb' : (2 : UInt8) :: List.replicate 12 0 = num tab.length ++ (entries tab ++ r) := hb
 rcases num_head hb' with ⟨_, h2, h3⟩ | ⟨h1, _⟩
 · have h2' : tab.length = 2 := h2
   match tab, h2' with
   | [x, y], _ =>
    simp only [entries, entry, List.append_assoc, List.append_nil] at h3
    have h3' : (0 : UInt8) :: List.replicate 11 0 = num x.size ++ (x.data.toList ++ (num y.size ++ (y.data.toList ++ r))) := h3
    rcases num_head h3' with ⟨_, hx, h4⟩ | ⟨h4, _⟩
    · have hx0 : x.size = 0 := hx
      have hxl : x.data.toList = [] := List.eq_nil_of_length_eq_zero (by simp only [Array.length_toList]; exact hx0)
      rw [hxl] at h4
      have h4' : (0 : UInt8) :: List.replicate 10 0 = num y.size ++ (y.data.toList ++ r) := h4
      rcases num_head h4' with ⟨_, hy, _⟩ | ⟨h5, _⟩
      · have hy0 : y.size = 0 := hy
        have hyl : y.data.toList = [] := List.eq_nil_of_length_eq_zero (by simp only [Array.length_toList]; exact hy0)
        have : x = y := toList_inj (hxl.trans hyl.symm)
        subst this
        simp at hn
      · simp at h5
    · simp at h4
 · simp at h1
theorem err_short {bs : List UInt8} (h : bs.length < 9) : (∀ t, ¬ DecOk bs t) ∧ errOf bs = 5 := not_dec_form (by omega) (.inl h)
theorem err_sum {bs c : List UInt8} (h1 : 12 < bs.length) (h2 : bs.length < 1000) (hm : bs.take 4 = magicB) (hc : c.length = 4) (hne : c ≠ le4 (crc bs)) : (∀ t, ¬ DecOk (bs ++ c) t) ∧ errOf (bs ++ c) = 440 := by
 have hl : (bs ++ c).length = bs.length + 4 := by rw [List.length_append, hc]
 have ht : (bs ++ c).take ((bs ++ c).length - 4) = bs := by rw [hl, Nat.add_sub_cancel]; exact List.take_left
 refine not_dec_sum (by omega) ?_ ?_
 · rintro (h | h)
   · omega
   · apply h; rw [List.take_append_of_le_length (by omega)]; exact hm
 · rw [ht]
   intro e
   unfold sealed at e
   exact hne (List.append_cancel_left e).symm
end Go.Sx
namespace Go.Sx
open Go.Proofs
theorem WL.makeSlice {P : Program} {ops : Array Oper} {Q : Exit → Act → World → Prop} {rest : List Oper} {n : Nat} {ds : List Deferred} {m : Env} {w : World} {d : Nat} {ty : TypeId} {pos : String} {aft : Array Edge}
 {t : TypeId} {x y : Operand} {vx vy v : Value} {w' : World} (hx : ev m x = some vx) (hy : ev m y = some vy) (hr : (Instr.makeSlice t vx vy).run P w = .ok v w') (hb : Nat.blt d n = true)
 (h : WL P ops Q rest n ds ((d, v) :: m) w') : WL P ops Q (⟨some d, .makeSlice t x y, ty, pos, aft, none⟩ :: rest) n ds m w :=
 WL.val rfl rfl hb (fun a ha => by simp [execOp, ha.eval hx, ha.eval hy, hr]) h
theorem made_zero (n : Nat) : (madeCells (Value.int .u8 0).cells (n * 1)).toList = (List.replicate n (0 : UInt8)).map bv := by
 have hc : (Value.int .u8 0).cells = #[.int .u8 0] := rfl
 rw [hc, Nat.mul_one]
 apply List.ext_getElem?
 intro i
 simp only [madeCells, List.map_replicate]
 by_cases h : i < n
 · simp [h, bv, Nat.mod_one]
 · simp [h]
theorem make_bytes {w : World} {n : Nat} (h : n ≤ 2 ^ 40) : ∃ w', (Instr.makeSlice 22 (.int .i64 (n : Int)) (.int .i64 (n : Int))).run Tryz.prog w = .ok (.slice (some ⟨w.heap.size, 0, none⟩) n n) w' ∧
 Bts w' (.slice (some ⟨w.heap.size, 0, none⟩) n n) (List.replicate n 0) ∧ Fr (fun _ => False) w (fun _ => False) w' := by
 obtain ⟨i, hi, hz, hs1, hb⟩ := info_of info5
 obtain ⟨w', h1, h2, h3⟩ := run_make_full w 0 22 5 i (.int .u8 0) 1 Tryz.underlying22 hi hz hs1 .i64 .i64 n (by rw [show i.bytes = 1 from hb]; omega) (by simp only [maxLen]; omega) (Nat.zero_le _)
 rw [made_zero] at h2
 refine ⟨w', h1, Bts.of_row (by simpa using h2), ⟨h3.os, h3.tape, h3.output, h3.size, fun b hb _ => h3.block b hb (by simp), fun b hb => hb.elim⟩⟩
theorem row_set {w : World} {v : Value} {xs : List UInt8} {i : Nat} {c : UInt8} (r : w.ownsRow 0 5 1 v xs.length (xs.map bv)) (hi : i < xs.length) :
 ∃ g cap w', v = .slice (some ⟨g, 0, none⟩) xs.length cap ∧ (storeVar 5 ⟨g, i, none⟩ (bv c)).run Tryz.prog w = .ok () w' ∧ w'.ownsRow 0 5 1 v (xs.set i c).length ((xs.set i c).map bv) ∧ Fr (ownB v) w (ownB v) w' := by
 rcases r.2 with ⟨_, h0⟩ | ⟨g, cap, cur, rfl, hb, hg, h1, h2, h3, h4⟩
 · omega
 · have hblk : Blk w g cur.toList 5 := by simpa [Blk] using hg
   have hst := store_at (P := Tryz.prog) (w := w) (t := 5) (n := 1) (agg := false) (b := g) (o := i) (v := bv c) (vs := [bv c]) ty5 rfl rfl (by simp [bv, Value.oneCell']) hblk (by simp; omega)
   have hsp : splice cur.toList i [bv c] = cur.toList.set i (bv c) := by
    rw [List.set_eq_take_append_cons_drop, if_pos (by simp; omega)]; simp [splice]
   rw [hsp] at hst
   refine ⟨g, cap, _, rfl, hst, ⟨by simp, .inr ⟨g, cap, (cur.toList.set i (bv c)).toArray, by simp, hb, hblk.setRow _, by simpa using h1, h2, by simpa using h3, ?_⟩⟩, Fr.setRow _ rfl⟩
   simp only [List.length_set, Nat.mul_one] at h4 ⊢
   rw [List.take_set, h4, List.map_set]
end Go.Sx
namespace Go.Sx
open Go.Proofs
theorem lit17 {w : World} {c : UInt8} : (Instr.buildSlice 22 17 #[(0, .int .u8 67), (1, .int .u8 72), (2, .int .u8 83), (3, .int .u8 76), (4, bv c), (5, .int .u8 0), (6, .int .u8 0), (7, .int .u8 0), (8, .int .u8 0), (9, .int .u8 0), (10, .int .u8 0), (11, .int .u8 0), (12, .int .u8 0), (13, .int .u8 0), (14, .int .u8 0), (15, .int .u8 0), (16, .int .u8 0)]).run Tryz.prog w =
 .ok (.slice (some ⟨w.heap.size, 0, none⟩) 17 17) (w.alloc (.cells ((badB c).map bv).toArray 5)) := by
 obtain ⟨i, hi, hz, hs1, hb⟩ := info_of info5
 have hs1' : i.size = 1 := hs1
 refine run_buildSlice w 22 5 17 _ _ i (.int .u8 0) Tryz.underlying22 hi hz (by rw [hs1']; decide) (by rw [hs1']; decide) ?_
 rw [hs1']
 have := Go.Great.fill_whole (s := 1) (by decide) ((badB c).map bv) ((Array.range (17 * 1)).map ((Value.int .u8 0).cells[· % (Value.int .u8 0).cells.size]!)) (by intro v hv; obtain ⟨x, _, rfl⟩ := List.mem_map.1 hv; rfl) (by simp [badB])
 have hfl : ((badB c).map bv).flatMap (fun v => v.cells.toList) = (badB c).map bv := by
  rw [List.flatMap_map]
  induction badB c with
  | nil => rfl
  | cons x l ih => simp only [List.flatMap_cons, List.map_cons, ih]; rfl
 rw [hfl] at this
 exact this
theorem dec_err {bs : List UInt8} {w w' : World} {v : Value} {e : Int} (he : (∀ t, ¬ DecOk bs t) ∧ errOf bs = e) (h : DRes bs w v w') : v = .tuple #[.agg zsheet.toArray, .int .i64 e] ∧ Fr (fun _ => False) w (fun _ => False) w' := by
 obtain ⟨cs, e', rfl, f, h1⟩ := h
 rcases h1 with ⟨t, ht, _⟩ | ⟨_, h2, rfl⟩
 · exact absurd ht (he.1 t)
 · exact ⟨by rw [h2, he.2], f⟩
theorem put_sheet {w : World} {cs : List Value} (hl : cs.length = 10) (h1 : ∀ x ∈ cs, x.oneCell' = true) : ∃ w', (storeVar 36 ⟨w.heap.size, 0, none⟩ (.agg cs.toArray)).run Tryz.prog (w.alloc (.cells zsheet.toArray 36)) = .ok () w' ∧ Blk w' w.heap.size cs 36 ∧ Fr (fun _ => False) w (fun _ => False) w' := by
 have a : Blk (w.alloc (.cells zsheet.toArray 36)) w.heap.size zsheet 36 := Blk.alloc_new
 refine ⟨_, store36 a rfl hl h1, a.setRow _, ⟨rfl, rfl, rfl, by simp, fun b hb _ => ?_, fun b hb => hb.elim⟩⟩
 rw [setRow_other _ _ _ _ (by omega), heap_alloc_old w _ b hb]
theorem take8_len : ((sealed zeroB).take 8).length < 9 := Nat.lt_of_le_of_lt (List.length_take_le 8 _) (by decide)
theorem bad_last (c c' : UInt8) (h : (sealed zeroB)[19]? = some c) (hc : c' ≠ c) : (∀ t, ¬ DecOk ((sealed zeroB).set 19 c') t) ∧ errOf ((sealed zeroB).set 19 c') = 440 := by
 have hs : (sealed zeroB).set 19 c' = zeroB ++ (le4 (crc zeroB)).set 3 c' := by
  unfold sealed; rw [List.set_append_right _ _ (show zeroB.length ≤ 19 by decide)]; simp only [show 19 - zeroB.length = 3 by decide]
 rw [hs]
 have h3 : (le4 (crc zeroB))[3]? = some c := by
  unfold sealed at h; rw [List.getElem?_append_right (show zeroB.length ≤ 19 by decide)] at h; simpa only [show 19 - zeroB.length = 3 by decide] using h
 refine err_sum (by decide) (by decide) rfl rfl ?_
 intro e
 have h4 : ((le4 (crc zeroB)).set 3 c')[3]? = some c' := rfl
 rw [e, h3] at h4
 exact hc (Option.some.inj h4).symm
def useC (v : Value) : List Value := [.string ⟨#[]⟩, v, .int .i64 0, .int .i64 0]
def sheetC (b : Nat) : List Value := [.string ⟨#[]⟩, .slice (some ⟨b, 0, none⟩) 1 1, .slice none 0 0, .slice none 0 0, .slice none 0 0, .slice none 0 0, .slice none 0 0, .slice none 0 0, .slice none 0 0, .slice none 0 0]
def sheetK (b : Nat) : List Value := [.string ⟨#[]⟩, .slice none 0 0, .slice none 0 0, .slice none 0 0, .slice none 0 0, .slice (some ⟨b, 0, none⟩) 0 0, .slice none 0 0, .slice none 0 0, .slice none 0 0, .slice none 0 0]
theorem run_use0 {w : World} : (Instr.build 48 #[]).run Tryz.prog w = .ok (.agg (useC (.pointer none)).toArray) w := by
 simp [Instr.build, Tryz.zeroValue48, Tryz.runUnderlying48, Value.cells, Instr.fill, useC]
theorem run_use1 {w : World} {b : Nat} : (Instr.build 48 #[(1, ptr b)]).run Tryz.prog w = .ok (.agg (useC (ptr b)).toArray) w := by
 simp [Instr.build, Tryz.zeroValue48, Tryz.runUnderlying48, Value.cells, Instr.fill, useC, ptr, Tryz.sizeOf46]
theorem run_sheetC {w : World} {b : Nat} : (Instr.build 36 #[(1, .slice (some ⟨b, 0, none⟩) 1 1)]).run Tryz.prog w = .ok (.agg (sheetC b).toArray) w := by
 simp [Instr.build, Tryz.zeroValue36, Tryz.runUnderlying36, Value.cells, Instr.fill, Tryz.sizeOf26, sheetC]
theorem run_sheetK {w : World} {b : Nat} : (Instr.build 36 #[(5, .slice (some ⟨b, 0, none⟩) 0 0)]).run Tryz.prog w = .ok (.agg (sheetK b).toArray) w := by
 simp [Instr.build, Tryz.zeroValue36, Tryz.runUnderlying36, Value.cells, Instr.fill, Tryz.sizeOf30, sheetK]
theorem lit_keys {w : World} : (Instr.buildSlice 30 0 #[]).run Tryz.prog w = .ok (.slice (some ⟨w.heap.size, 0, none⟩) 0 0) (w.alloc (.cells ([] : List Value).toArray 76)) := by
 have hr : Array.range 0 = #[] := rfl
 simp [Instr.buildSlice, Tryz.runUnderlying30, Tryz.sizeOf76, Instr.fill, newRow, hr]
theorem run_uses {w : World} {v : Value} (_hv : v.cells = #[v]) : (Instr.buildSlice 26 1 #[(0, .agg (useC v).toArray)]).run Tryz.prog w = .ok (.slice (some ⟨w.heap.size, 0, none⟩) 1 1) (w.alloc (.cells (useC v).toArray 48)) := by
 obtain ⟨bytes, he, _⟩ : ∃ bytes, EInfo Tryz.prog 48 4 bytes ∧ bytes ≤ 4096 := einfo_le (by kernel_rfl)
 exact slice_elem Tryz.underlying26 he (by decide) (by decide) rfl rfl
theorem rep_useN {w : World} {S : Nat → Prop} : Rep w S useN (.st .use) (useC (.pointer none)) := by
 simp only [useN, useC, Rep, RepF, SN.fields, SN.size, Ty.size, List.length_cons, List.length_nil, List.drop_succ_cons, List.drop_zero, List.take_succ_cons, List.take_zero, Nat.reduceAdd, true_and, and_true]
 exact ⟨Nat.zero_le _, by unfold isInt; decide⟩
theorem rep_useO {w : World} {S : Nat → Prop} {b : Nat} (hS : S b) (hb : Blk w b zsheet 36) : Rep w S useO (.st .use) (useC (ptr b)) := by
 simp only [useO, useC, ptr, Rep, RepF, SN.fields, SN.size, Ty.size, List.length_cons, List.length_nil, List.drop_succ_cons, List.drop_zero, List.take_succ_cons, List.take_zero, Nat.reduceAdd, true_and, and_true]
 exact ⟨Nat.zero_le _, ⟨b, 0, zsheet, rfl, hS, hb.lt, hb.all, rfl, rep_zero⟩, by unfold isInt; decide⟩
theorem rep_sheetU {w : World} {S : Nat → Prop} {b : Nat} {u : T} {cs : List Value} (hS : S b) (hb : Blk w b cs 48) (hl : cs.length = 4) (hu : Rep w S u (.st .use) cs) : Rep w S (sheetU u) (.st .sheet) (sheetC b) := by
 simp only [sheetU, sheetC, Rep, RepF, SN.fields, SN.size, Ty.size, List.length_cons, List.length_nil, List.drop_succ_cons, List.drop_zero, List.take_succ_cons, List.take_zero, Nat.reduceAdd, nilSl0, true_and, and_true, true_or]
 refine ⟨Nat.zero_le _, .inr ⟨b, 0, 1, rfl, hS, hb.lt, Nat.le_refl _, by simp [maxLen], ?_⟩⟩
 simp only [RepL]
 exact ⟨⟨cs, hb.all, hl, hu⟩, trivial⟩
theorem rep_sheetK {w : World} {S : Nat → Prop} {b : Nat} (_hS : S b) (_hb : b < w.heap.size) : Rep w S zeroT (.st .sheet) (sheetK b) := by
 simp only [zeroT, sheetK, Rep, RepF, SN.fields, SN.size, Ty.size, List.length_cons, List.length_nil, List.drop_succ_cons, List.drop_zero, List.take_succ_cons, List.take_zero, Nat.reduceAdd, nilSl0, true_and, and_true, true_or]
 exact Nat.zero_le _
theorem sheetC_one {b : Nat} : ∀ x ∈ sheetC b, x.oneCell' = true := by
 intro x hx; simp only [sheetC, List.mem_cons, List.not_mem_nil, or_false] at hx
 rcases hx with h | h | h | h | h | h | h | h | h | h <;> subst h <;> rfl
set_option maxHeartbeats 4000000 in
set_option maxRecDepth 4000 in
theorem c9 {w : World} : Calls Tryz.prog 9 ([] : List Value).toArray w (End (fun v w' => v = .bool true ∧ Fr (fun _ => False) w (fun _ => False) w') (fun _ _ => False)) := by
 refine cW 106 Tryz.func9 rfl rfl rfl ?_
 refine W.sq (W.rg (WL.an rfl rfl (WL.nx ?_)))
 refine W.sq (W.rg (WL.build rfl run_zsheet rfl (WL.cl Tryz.call23 rfl rfl (c23 (S := fun _ => False) rep_zero (by decide)) ?_ nop)))
 rintro _ w1 ⟨va, f1, h1⟩
 rw [encode_zero] at h1
 obtain ⟨rfl, ra⟩ := h1
 have la : (sealed zeroB).length = 20 := sealed_len _
 have hA := Bts.of_row ra
 obtain ⟨ga, ca, hva, _⟩ := hA.val
 rw [la] at hva
 subst hva
 obtain ⟨v8, hs8, hb8, _⟩ := bts_slice hA (lo := none) (hi := some (.int .i64 8)) (l := 0) (k := 8) (.inl ⟨rfl, rfl⟩) (.inr rfl) (Nat.zero_le _) (by omega)
 rw [List.drop_zero] at hb8
 refine WL.mv rfl rfl (WL.extract rfl rfl rfl (WL.extract rfl rfl rfl (WL.an rfl rfl (WL.an rfl rfl (WL.kp [(1, .slice ga 20 ca)] ⟨rfl, trivial⟩ ?_)))))
 refine W.sq (W.sq (W.rg (WL.mv rfl rfl (WL.len rfl (lS Tryz.underlying22) rfl (WL.bi rfl rfl (run_neq (c := false) rfl) rfl (WL.nx (W.cond_false rfl (W.skip fun a ha => tN ?_))))))))
 refine W.run ha (W.sq (W.rg (WL.mv rfl rfl (WL.slice (vl := none) (vh := some (.int .i64 8)) rfl rfl rfl (hs8 _) rfl (WL.cl Tryz.call15 rfl rfl (c15 hb8) ?_ nop)))))
 intro v w2 hd
 obtain ⟨rfl, f2⟩ := dec_err (err_short take8_len) hd
 obtain ⟨w3, hst3, _, f3⟩ := put_sheet (w := w2) (cs := zsheet) rfl zsheet_one
 refine WL.mv rfl rfl (WL.extract rfl rfl rfl (WL.extract rfl rfl rfl (WL.alloc (zero36 _) rfl (WL.so rfl rfl hst3 (WL.an rfl rfl (WL.kp [(1, .slice ga 20 ca), (4, .int .i64 5)] ⟨rfl, rfl, trivial⟩ ?_))))))
 have hA3 := hA.keep0 (f2.trans f3)
 refine W.sq (W.rg (WL.buildSlice rfl lit_none rfl (WL.mv rfl rfl ?_)))
 obtain ⟨v4, w4, hr4, r4, f4⟩ := append_bytes (ty := 22) row_none (hA3.keep0 (fr_new (o := .cells ([] : List Value).toArray 5))).src (by rw [la]; simp)
 rw [List.nil_append] at r4
 refine WL.append rfl rfl hr4 rfl (WL.an rfl rfl (WL.kp [(4, .int .i64 5), (5, v4)] ⟨rfl, rfl, trivial⟩ ?_))
 obtain ⟨c, hc⟩ : ∃ c, (sealed zeroB)[19]? = some c := ⟨_, List.getElem?_eq_getElem (by rw [la]; decide)⟩
 have hcl := c.toNat_lt
 obtain ⟨g, cap, w5, rfl, hst5, r5, f5⟩ := row_set (c := ((c.toNat + 1) % 256).toUInt8) r4 (i := 19) (by rw [la]; decide)
 rw [la]
 have hcell : w4.cell? ⟨g, 0 + 19 * 1, none⟩ = some (bv c) := by
  rcases (Bts.of_row r4).2 with ⟨e, _⟩ | ⟨b, o, c', e, _, hat, _⟩
  · cases e
  · cases e
    exact hat 19 (bv c) (by rw [List.getElem?_map, hc]; rfl)
 have hidx : ∀ w, (Instr.indexAt 22 (.slice (some ⟨g, 0, none⟩) 20 cap) (.int .i64 19)).run Tryz.prog w = .ok (.pointer (some ⟨g, 0 + 19 * 1, none⟩)) w := fun w =>
  indexSliceU (i := 19) Tryz.underlying22 ty5 (by decide)
 refine W.sq (W.rg (WL.mv rfl rfl (WL.ix rfl rfl (hidx _) rfl (WL.ld rfl (load1 ty5 hcell) rfl (WL.bi (v := bv ((c.toNat + 1) % 256).toUInt8) rfl rfl ?_ rfl (WL.ix rfl rfl (hidx _) rfl (WL.so rfl rfl hst5 (WL.nx ?_))))))))
 · show Result.ok (Value.int .u8 (IntKind.u8.wrap ((c.toNat : Int) + 1))) _ = _
   rw [bv_val _ (by omega), wrap_u8]
   congr 2
 have hne : ((c.toNat + 1) % 256).toUInt8 ≠ c := by
  intro e
  have := congrArg UInt8.toNat e
  rw [toNat_toUInt8 (by omega)] at this
  omega
 have r5' := Bts.of_row r5
 rw [show ((sealed zeroB).set 19 ((c.toNat + 1) % 256).toUInt8).length = 20 by rw [List.length_set, la]] at r5
 refine W.sq (W.rg (WL.mv rfl rfl (WL.cl Tryz.call15 rfl rfl (c15 (show Bts w5 (.slice (some ⟨g, 0, none⟩) 20 cap) _ from (by rw [la] at r5'; exact r5'))) ?_ nop)))
 intro v w6 hd
 obtain ⟨rfl, f6⟩ := dec_err (bad_last c _ hc hne) hd
 obtain ⟨w7, hst7, _, f7⟩ := put_sheet (w := w6) (cs := zsheet) rfl zsheet_one
 refine WL.mv rfl rfl (WL.extract rfl rfl rfl (WL.extract rfl rfl rfl (WL.alloc (zero36 _) rfl (WL.so rfl rfl hst7 (WL.an rfl rfl (WL.kp [(4, .int .i64 5), (7, .int .i64 440)] ⟨rfl, rfl, trivial⟩ ?_))))))
 refine W.sq (W.rg (WL.buildSlice rfl (lit17 (c := 128)) rfl (WL.convert rfl (Go.Lib.run_convert_bytes_const w7 22 5 _ 17 17 Tryz.underlying22 Tryz.underlying5) rfl ?_)))
 have row17 : ∀ (w : World) (c : UInt8), Bts (w.alloc (.cells ((badB c).map bv).toArray 5 (((badB c).map bv).toArray.size, ((badB c).map bv).toArray.size + 1))) (.slice (some ⟨w.heap.size, 0, none⟩) 17 17) (badB c) := by
  intro w c
  refine ⟨by simp [badB, maxLen], .inr ⟨w.heap.size, 0, 17, rfl, by simp, ?_, Nat.le_refl _⟩⟩
  intro j v hj
  have := heap_alloc_new w (.cells ((badB c).map bv).toArray 5 (((badB c).map bv).toArray.size, ((badB c).map bv).toArray.size + 1))
  simp only [World.cell?, this, Nat.zero_add]
  simpa using hj
 refine WL.cl Tryz.call14 rfl rfl (c14 (row17 w7 128) (by simp [badB])) ?_ nop
 rintro v8 w8 ⟨r8, f8⟩
 refine WL.cl Tryz.call15 rfl rfl (c15 (Bts.of_row r8)) ?_ nop
 intro v w9 hd
 obtain ⟨rfl, f9⟩ := dec_err ⟨bad_128, err_bad 128⟩ hd
 obtain ⟨w10, hst10, _, f10⟩ := put_sheet (w := w9) (cs := zsheet) rfl zsheet_one
 refine WL.mv rfl rfl (WL.extract rfl rfl rfl (WL.extract rfl rfl rfl (WL.alloc (zero36 _) rfl (WL.so rfl rfl hst10 (WL.an rfl rfl (WL.kp [(4, .int .i64 5), (7, .int .i64 440), (9, .int .i64 5)] ⟨rfl, rfl, rfl, trivial⟩ ?_))))))
 refine W.sq (W.rg (WL.buildSlice rfl (lit17 (c := 2)) rfl (WL.convert rfl (Go.Lib.run_convert_bytes_const w10 22 5 _ 17 17 Tryz.underlying22 Tryz.underlying5) rfl ?_)))
 refine WL.cl Tryz.call14 rfl rfl (c14 (row17 w10 2) (by simp [badB])) ?_ nop
 rintro v11 w11 ⟨r11, f11⟩
 refine WL.cl Tryz.call15 rfl rfl (c15 (Bts.of_row r11)) ?_ nop
 intro v w12 hd
 obtain ⟨rfl, f12⟩ := dec_err ⟨bad_2, err_bad 2⟩ hd
 obtain ⟨w13, hst13, _, f13⟩ := put_sheet (w := w12) (cs := zsheet) rfl zsheet_one
 refine WL.mv rfl rfl (WL.extract rfl rfl rfl (WL.extract rfl rfl rfl (WL.alloc (zero36 _) rfl (WL.so rfl rfl hst13 (WL.an rfl rfl (WL.kp [(4, .int .i64 5), (7, .int .i64 440), (9, .int .i64 5), (11, .int .i64 5)] ⟨rfl, rfl, rfl, rfl, trivial⟩ ?_))))))
 obtain ⟨w14, hmk, hb14, f14⟩ := make_bytes (w := w13) (n := 16777217) (by decide)
 refine W.sq (W.rg (WL.makeSlice rfl rfl hmk rfl (WL.cl Tryz.call15 rfl rfl (c15 hb14) ?_ nop)))
 intro v w15 hd
 obtain ⟨rfl, f15⟩ := dec_err (not_dec_long (by rw [List.length_replicate]; omega)) hd
 obtain ⟨w16, hst16, _, f16⟩ := put_sheet (w := w15) (cs := zsheet) rfl zsheet_one
 refine WL.mv rfl rfl (WL.extract rfl rfl rfl (WL.extract rfl rfl rfl (WL.alloc (zero36 _) rfl (WL.so rfl rfl hst16 (WL.an rfl rfl (WL.kp [(4, .int .i64 5), (7, .int .i64 440), (9, .int .i64 5), (11, .int .i64 5), (13, .int .i64 2)] ⟨rfl, rfl, rfl, rfl, rfl, trivial⟩ ?_))))))
 clear hst3 hst7 hst10 hst13 hst16 hmk hb14
 refine W.sq (W.rg (WL.build rfl run_zsheet rfl (WL.box rfl rfl ?_)))
 have a17 : Blk (w16.alloc (.cells zsheet.toArray 36)) w16.heap.size zsheet 36 := Blk.alloc_new
 have f17 : Fr (fun _ => False) w16 (fun _ => False) (w16.alloc (.cells zsheet.toArray 36)) := Fr.alloc _ _ _
 show WL _ _ _ _ _ _ _ (w16.alloc (.cells zsheet.toArray 36))
 generalize w16.alloc (.cells zsheet.toArray 36) = w17 at a17 f17 ⊢
 generalize w16.heap.size = b0 at a17 ⊢
 refine WL.build rfl (run_use1 (b := b0)) rfl (WL.buildSlice rfl (run_uses rfl) rfl (WL.build rfl run_sheetC rfl (WL.alloc (zero36 _) rfl ?_)))
 have a18 : Blk (w17.alloc (.cells (useC (ptr b0)).toArray 48)) w17.heap.size (useC (ptr b0)) 48 := Blk.alloc_new
 have f18 : Fr (fun _ => False) w17 (fun _ => False) (w17.alloc (.cells (useC (ptr b0)).toArray 48)) := Fr.alloc _ _ _
 obtain ⟨w19, hst19, a19, f19⟩ := put_sheet (w := w17.alloc (.cells (useC (ptr b0)).toArray 48)) (cs := sheetC w17.heap.size) rfl sheetC_one
 refine WL.so rfl rfl hst19 ?_
 generalize (w17.alloc (.cells (useC (ptr b0)).toArray 48)).heap.size = cx at a19 ⊢
 generalize w17.alloc (.cells (useC (ptr b0)).toArray 48) = w18 at a18 f18 f19
 generalize w17.heap.size = b1 at a18 a19
 have c17 : Blk w19 b0 zsheet 36 := ((f18.trans f19).blk _ a17.lt (fun h => h)).trans a17
 have c18 : Blk w19 b1 (useC (ptr b0)) 48 := (f19.blk _ a18.lt (fun h => h)).trans a18
 refine WL.kp [(4, .int .i64 5), (7, .int .i64 440), (9, .int .i64 5), (11, .int .i64 5), (13, .int .i64 2), (14, ptr cx)] ⟨rfl, rfl, rfl, rfl, rfl, rfl, trivial⟩ ?_
 have repX : ∀ {w' : World}, Fr (fun _ => False) w19 (fun _ => False) w' → Rep w' (fun _ => True) (sheetU useO) (.st .sheet) (sheetC b1) ∧ Blk w' cx (sheetC b1) 36 := fun f =>
  ⟨rep_sheetU trivial ((f.blk _ c18.lt (fun h => h)).trans c18) rfl (rep_useO trivial ((f.blk _ c17.lt (fun h => h)).trans c17)), (f.blk _ a19.lt (fun h => h)).trans a19⟩
 have g4 : Fr (fun _ => False) w3 (fun _ => False) w5 := by
  have : Fr (fun _ => False) w3 (ownB (.slice (some ⟨g, 0, none⟩) (sealed zeroB).length cap)) w4 := fr_new.trans (by rw [own_slice] at f4; exact f4)
  exact (this.trans f5).none
 have g8 : Fr (fun _ => False) w7 (fun _ => False) w8 := ((Fr.alloc _ _ _).trans f8).none
 have g11 : Fr (fun _ => False) w10 (fun _ => False) w11 := ((Fr.alloc _ _ _).trans f11).none
 have G1 : Fr (fun _ => False) w (fun _ => False) w10 := (((((((f1.none.trans f2).trans f3).trans g4).trans f6).trans f7).trans g8).trans f9).trans f10
 have G2 : Fr (fun _ => False) w10 (fun _ => False) w19 := ((((((((g11.trans f12).trans f13).trans f14).trans f15).trans f16).trans f17).trans f18).trans f19)
 clear hA hA3 hb8 r4 r5 r5' r8 r11 ra row17
 refine W.sq (W.rg (WL.mv rfl rfl (WL.bi rfl rfl (run_eql (c := true) rfl) rfl (WL.mv rfl rfl ?_))))
 refine WL.gd (j := 2) rfl rfl rfl (WL.mv rfl rfl (WL.gd (j := 2) rfl rfl rfl (WL.bi rfl rfl (run_eql (c := true) rfl) rfl (WL.pick rfl rfl rfl (WL.mv rfl rfl ?_)))))
 refine WL.gd (j := 6) rfl rfl rfl (WL.mv rfl rfl (WL.gd (j := 6) rfl rfl rfl (WL.bi rfl rfl (run_eql (c := true) rfl) rfl (WL.pick rfl rfl rfl (WL.mv rfl rfl ?_)))))
 refine WL.gd (j := 10) rfl rfl rfl (WL.mv rfl rfl (WL.gd (j := 10) rfl rfl rfl (WL.bi rfl rfl (run_eql (c := true) rfl) rfl (WL.pick rfl rfl rfl (WL.mv rfl rfl ?_)))))
 refine WL.gd (j := 14) rfl rfl rfl (WL.mv rfl rfl (WL.gd (j := 14) rfl rfl rfl (WL.bi rfl rfl (run_eql (c := true) rfl) rfl (WL.pick rfl rfl rfl (WL.mv rfl rfl ?_)))))
 refine WL.gd (j := 18) rfl rfl rfl (WL.buildSlice rfl lit_keys rfl ?_)
 have f20 : Fr (fun _ => False) w19 (fun _ => False) (w19.alloc (.cells ([] : List Value).toArray 76)) := Fr.alloc _ _ _
 have s20 : w19.heap.size < (w19.alloc (.cells ([] : List Value).toArray 76)).heap.size := by simp
 generalize w19.alloc (.cells ([] : List Value).toArray 76) = w20 at f20 s20 ⊢
 generalize w19.heap.size = b2 at s20 ⊢
 refine WL.gd (j := 18) rfl rfl rfl (WL.build rfl (run_sheetK (b := b2)) rfl (WL.gd (j := 18) rfl rfl rfl (WL.build rfl run_zsheet rfl ?_)))
 refine WL.gd (j := 18) rfl rfl rfl (WL.cl Tryz.call21 rfl rfl (c21 (S := fun _ => True) (rep_sheetK trivial s20) rep_zero (by decide) (by decide)) ?_ nop)
 rintro _ w21 ⟨rfl, f21⟩
 rw [same_zero]
 refine WL.pick rfl rfl rfl (WL.mv rfl rfl ?_)
 obtain ⟨_, x21⟩ := repX (f20.trans f21)
 refine WL.gd (j := 24) rfl rfl rfl (WL.ld rfl (loadN iy36 rfl x21.all) rfl (WL.gd (j := 24) rfl rfl rfl (WL.build rfl run_use0 rfl (WL.gd (j := 24) rfl rfl rfl (WL.buildSlice rfl (run_uses rfl) rfl ?_)))))
 have a22 : Blk (w21.alloc (.cells (useC (.pointer none)).toArray 48)) w21.heap.size (useC (.pointer none)) 48 := Blk.alloc_new
 have f22 : Fr (fun _ => False) w21 (fun _ => False) (w21.alloc (.cells (useC (.pointer none)).toArray 48)) := Fr.alloc _ _ _
 generalize w21.alloc (.cells (useC (.pointer none)).toArray 48) = w22 at a22 f22 ⊢
 generalize w21.heap.size = b3 at a22 ⊢
 obtain ⟨x22, y22⟩ := repX ((f20.trans f21).trans f22)
 refine WL.gd (j := 24) rfl rfl rfl (WL.build rfl (run_sheetC (b := b3)) rfl (WL.gd (j := 24) rfl rfl rfl (WL.cl Tryz.call21 rfl rfl (c21 x22 (rep_sheetU trivial a22 rfl rep_useN) (by decide) (by decide)) ?_ nop)))
 rintro _ w23 ⟨rfl, f23⟩
 rw [same_not]
 refine WL.gd (j := 24) rfl rfl rfl (WL.not rfl rfl (WL.pick rfl rfl rfl (WL.mv rfl rfl ?_)))
 obtain ⟨x23, y23⟩ := repX (((f20.trans f21).trans f22).trans f23)
 refine WL.gd (j := 32) rfl rfl rfl (WL.ld rfl (loadN iy36 rfl y23.all) rfl (WL.gd (j := 32) rfl rfl rfl (WL.ld rfl (loadN iy36 rfl y23.all) rfl ?_)))
 refine WL.gd (j := 32) rfl rfl rfl (WL.cl Tryz.call21 rfl rfl (c21 x23 x23 (by decide) (by decide)) ?_ nop)
 rintro _ w24 ⟨rfl, f24⟩
 rw [same_use]
 refine WL.pick rfl rfl rfl (WL.mv rfl rfl (WL.gd (j := 37) rfl rfl rfl (WL.cl Tryz.call13 rfl rfl c13 ?_ nop)))
 rintro _ w25 ⟨rfl, f25⟩
 exact WL.pick rfl rfl rfl (WL.an rfl rfl (WL.nx (W.ret fun a ha => pR rfl ha rfl ⟨rfl, (G1.trans G2).trans (((((f20.trans f21).trans f22).trans f23).trans f24).trans f25)⟩)))
end Go.Sx
namespace Go.Sx
mutual
def T.dp : T → Nat
 | .list l => T.dps l
 | .ptr t => t.dp
 | .agg sn l => match sn.deep with
  | true => T.dps l + 1
  | false => T.dps l
 | _ => 0
def T.dps : List T → Nat
 | [] => 0
 | t :: l => max t.dp (T.dps l)
end
mutual
theorem enc_dp {most long : Nat} : ∀ (t : T) (s s' : WS), enc most long t s = some s' → 0 < t.dp → s.nest + t.dp ≤ most
 | .int n, s, s', h, hp => by simp [T.dp] at hp
 | .bool b, s, s', h, hp => by simp [T.dp] at hp
 | .str x, s, s', h, hp => by simp [T.dp] at hp
 | .nil, s, s', h, hp => by simp [T.dp] at hp
 | .ptr t, s, s', h, hp => by
  simp only [enc] at h
  simp only [T.dp] at hp ⊢
  exact enc_dp t (s.num 1) _ h hp
 | .list l, s, s', h, hp => by
  simp only [enc] at h
  simp only [T.dp] at hp ⊢
  exact encL_dp l (s.num l.length) _ h hp
 | .agg sn l, s, s', h, hp => by
  simp only [enc] at h
  simp only [T.dp] at hp ⊢
  cases hd : sn.deep with
  | false =>
   rw [hd] at h hp
   exact encL_dp l _ _ h hp
  | true =>
   rw [hd] at h
   simp only at h ⊢
   split at h
   · cases h
   · rename_i hno
     simp only [Option.map_eq_some_iff] at h
     obtain ⟨u, hu, rfl⟩ := h
     by_cases h0 : 0 < T.dps l
     · have := encL_dp l _ _ hu h0
       simp only at this
       omega
     · omega
theorem encL_dp {most long : Nat} : ∀ (l : List T) (s s' : WS), encL most long l s = some s' → 0 < T.dps l → s.nest + T.dps l ≤ most
 | [], s, s', h, hp => by simp [T.dps] at hp
 | t :: l, s, s', h, hp => by
  simp only [encL, Option.bind_eq_some_iff] at h
  obtain ⟨u, h1, h2⟩ := h
  have hn := (enc_mono t _ _ h1).2
  simp only [T.dps] at hp ⊢
  have a : 0 < t.dp → s.nest + t.dp ≤ most := enc_dp t _ _ h1
  have b : 0 < T.dps l → u.nest + T.dps l ≤ most := encL_dp l _ _ h2
  rw [hn] at b
  by_cases h3 : t.dp ≤ T.dps l
  · rw [Nat.max_eq_right h3] at hp ⊢; exact b hp
  · rw [Nat.max_eq_left (by omega)] at hp ⊢; exact a hp
end
mutual
theorem enc_ok {most long : Nat} (hl40 : long ≤ 2 ^ 40) : ∀ (t : T) (s : WS), s.nest + t.dp ≤ most → s.use + 11 * t.wt ≤ long → ∃ s', enc most long t s = some s'
 | .int n, s, _, _ => by simp only [enc]; exact ⟨_, rfl⟩
 | .bool b, s, _, _ => by simp only [enc]; exact ⟨_, rfl⟩
 | .str x, s, _, _ => by simp only [enc]; exact ⟨_, rfl⟩
 | .nil, s, _, _ => by simp only [enc]; exact ⟨_, rfl⟩
 | .ptr t, s, hd, hu => by
  simp only [enc]
  have h1 := WS.num_use (s := s) (n := 1) (by decide)
  simp only [T.dp, T.wt] at hd hu
  exact enc_ok hl40 t (s.num 1) hd (by omega)
 | .list l, s, hd, hu => by
  simp only [enc]
  simp only [T.dp, T.wt] at hd hu
  have hl := T.wts_len l
  have h1 := WS.num_use (s := s) (n := l.length) (by omega)
  exact encL_ok hl40 l (s.num l.length) hd (by omega)
 | .agg sn l, s, hd, hu => by
  simp only [enc]
  simp only [T.dp, T.wt] at hd hu
  cases hs : sn.deep with
  | false =>
   rw [hs] at hd
   exact encL_ok hl40 l s hd (by omega)
  | true =>
   rw [hs] at hd
   simp only at hd ⊢
   have hb : s.b.length ≤ s.use := by unfold WS.use; omega
   rw [if_neg (by omega)]
   obtain ⟨s', h'⟩ := encL_ok (most := most) hl40 l { s with nest := s.nest + 1 } (by simp only; omega) (by simp only [WS.use] at hu ⊢; omega)
   exact ⟨_, by rw [h']; rfl⟩
theorem encL_ok {most long : Nat} (hl40 : long ≤ 2 ^ 40) : ∀ (l : List T) (s : WS), s.nest + T.dps l ≤ most → s.use + 11 * T.wts l ≤ long → ∃ s', encL most long l s = some s'
 | [], s, _, _ => by simp only [encL]; exact ⟨_, rfl⟩
 | t :: l, s, hd, hu => by
  simp only [T.dps, T.wts] at hd hu
  have m1 := Nat.le_max_left t.dp (T.dps l)
  have m2 := Nat.le_max_right t.dp (T.dps l)
  obtain ⟨u, hu1⟩ := enc_ok (most := most) hl40 t s (by omega) (by omega)
  have h2 := enc_use t s u hu1 (by omega)
  obtain ⟨s', h'⟩ := encL_ok (most := most) hl40 l u (by omega) (by omega)
  exact ⟨s', by simp only [encL, hu1, Option.bind_some]; exact h'⟩
end
theorem bytes_ok {most long : Nat} {t : T} (hl : long ≤ 2 ^ 40) (hd : t.dp ≤ most) (hw : 11 * t.wt ≤ long) :
 ∃ s', enc most long t ws0 = some s' ∧ s'.b.length ≤ 11 * t.wt ∧ s'.tab.length ≤ 11 * t.wt ∧ bytesOf most long t = some (fullOf s') := by
 obtain ⟨s', h⟩ := enc_ok hl t ws0 (by simpa [ws0] using hd) (by simpa [ws0, WS.use] using hw)
 have hu := (enc_use t ws0 s' h (by simp only [ws0, WS.use, List.length_nil]; omega)).1
 simp only [ws0, WS.use, List.length_nil] at hu
 refine ⟨s', h, by omega, by omega, ?_⟩
 unfold bytesOf
 rw [h]
 simp only [Option.bind_some]
 rw [if_neg (by omega)]
theorem same_refl {t : T} (hd : t.dp ≤ 9223372036854775807) (hw : 11 * t.wt ≤ 67108864) : sameOf t t = true := by
 obtain ⟨s', _, _, _, h⟩ := bytes_ok (most := 9223372036854775807) (long := 67108864) (by decide) hd hw
 unfold sameOf; rw [h]; simp
theorem encode_deep {t : T} (hd : 1000 < t.dp) : encodeOf t = none := by
 unfold encodeOf bytesOf
 cases h : enc 1000 16777216 t ws0 with
 | none => rfl
 | some s' => have := enc_dp t _ _ h (by omega); simp only [ws0] at this; omega
theorem tsz_mem : ∀ {l : List ByteArray} {x : ByteArray}, x ∈ l → x.size ≤ tsz l
 | y :: l, x, h => by
  simp only [tsz]
  rcases List.mem_cons.1 h with rfl | h
  · omega
  · have := tsz_mem h; omega
theorem encode_ok {t : T} (hd : t.dp ≤ 1000) (hw : 122 * t.wt + 100 ≤ 16777216) : ∃ bs, encodeOf t = some bs := by
 obtain ⟨s', h, h1, h2, h3⟩ := bytes_ok (most := 1000) (long := 16777216) (t := t) (by decide) hd (by omega)
 refine ⟨fullOf s', ?_⟩
 unfold encodeOf
 rw [h3]
 simp only [Option.bind_some]
 have ht := enc_tsz t _ _ h
 have ht0 : tsz ws0.tab = 0 := rfl
 have he := entries_len s'.tab (fun x hx => by have := tsz_mem hx; simp only [maxLen]; omega)
 have hn := num_len10 (n := s'.tab.length) (by omega)
 have hm : magicB.length = 4 := rfl
 have hbt : s'.b.length ≤ 11 * t.wt := h1
 rw [if_neg]
 unfold fullOf
 rw [sealed_len]
 simp only [List.length_append]
 omega
def eS : T := .str ⟨#[]⟩
def testT : T := .agg .test [.int 0, eS]
def typeT : T := .agg .type [.int 0, .int 0, testT, eS]
def exprT (l : List T) : T := .agg .expr [.int 0, eS, eS, .int 0, .agg .atom [.int 0, eS], .int 0, testT, typeT, .list [], .list l]
def instrT (l : List T) : T := .agg .instr [.int 0, eS, eS, .list [], .list [], .bool false, exprT [], exprT [], typeT, .list [], .list [], .list [], .list [], .list l, .list [], .int 0, .int 0]
def templateT (l : List T) : T := .agg .template [.list [], eS, .list [], .bool false, eS, .list [], .list l, eS, .int 0, .int 0, .int 0, .int 0]
def keyT (x : T) : T := .agg .key [eS, .list [], x]
def sheetTm (l : List T) : T := .agg .sheet [eS, .list [], .list [templateT l], .list [], .list [], .list [], .list [], .list [], .list [], .list []]
def sheetKy (x : T) : T := .agg .sheet [eS, .list [], .list [], .list [], .list [], .list [keyT x], .list [], .list [], .list [], .list []]
def nestI : Nat → List T
 | 0 => []
 | n + 1 => [instrT (nestI n)]
def nestE : Nat → T
 | 0 => exprT []
 | n + 1 => exprT [nestE n]
theorem dp_expr (l : List T) : (exprT l).dp = T.dps l + 1 := by
 simp [exprT, T.dp, T.dps, SN.deep, testT, typeT, eS]
theorem dp_instr (l : List T) : (instrT l).dp = max 1 (T.dps l) + 1 := by
 have h : (exprT []).dp = 1 := by rw [dp_expr]; rfl
 simp only [instrT, T.dp, T.dps, SN.deep, testT, typeT, eS, h]
 omega
theorem dps_nestI : ∀ n, T.dps (nestI n) = if n = 0 then 0 else n + 1
 | 0 => rfl
 | n + 1 => by
  simp only [nestI, T.dps, dp_instr, dps_nestI n]
  rw [if_neg (Nat.succ_ne_zero n)]
  split <;> omega
theorem dp_nestE : ∀ n, (nestE n).dp = n + 1
 | 0 => by simp only [nestE, dp_expr, T.dps]
 | n + 1 => by simp only [nestE, dp_expr, T.dps, dp_nestE n]; omega
theorem dp_sheetTm (l : List T) : (sheetTm l).dp = T.dps l + 1 := by
 simp [sheetTm, templateT, T.dp, T.dps, SN.deep, eS]
theorem dp_sheetKy (x : T) : (sheetKy x).dp = x.dp + 1 := by
 simp [sheetKy, keyT, T.dp, T.dps, SN.deep, eS]
theorem wt_eS : eS.wt = 1 := rfl
theorem wt_testT : testT.wt = 3 := rfl
theorem wt_typeT : typeT.wt = 7 := rfl
theorem wt_expr (l : List T) : (exprT l).wt = T.wts l + 21 := by
 simp only [exprT, T.wt, T.wts, wt_eS, wt_testT, wt_typeT]; omega
theorem wt_instr (l : List T) : (instrT l).wt = T.wts l + 64 := by
 simp only [instrT, T.wt, T.wts, wt_eS, wt_typeT, wt_expr]; omega
theorem wts_nestI : ∀ n, T.wts (nestI n) = 64 * n
 | 0 => rfl
 | n + 1 => by simp only [nestI, T.wts, wt_instr, wts_nestI n]; omega
theorem wt_nestE : ∀ n, (nestE n).wt = 21 * (n + 1)
 | 0 => by simp only [nestE, wt_expr, T.wts]
 | n + 1 => by simp only [nestE, wt_expr, T.wts, wt_nestE n]; omega
theorem wt_sheetTm (l : List T) : (sheetTm l).wt = T.wts l + 24 := by
 simp only [sheetTm, templateT, T.wt, T.wts, wt_eS]; omega
theorem wt_sheetKy (x : T) : (sheetKy x).wt = x.wt + 14 := by
 simp only [sheetKy, keyT, T.wt, T.wts, wt_eS]; omega
end Go.Sx
