import Derived.Test.YtdldhfocpandoaaGreatStH
import Derived.Laws.OwnMore
set_option maxHeartbeats 8000000
set_option maxRecDepth 8000
namespace Go.Sx
def bytesP : ByteArray := ⟨#[112]⟩
def bytesF : ByteArray := ⟨#[102, 97, 105, 108]⟩
def Ig : T := .agg .mode [.str bytesP, .str bytesF, .bool false, .bool false, .str ⟨#[]⟩, .int 0]
def IG : T := .agg .sheet [.str bytesP, .list [], .list [], .list [], .list [], .list [], .list [], .list [Ig, Ig], .list [], .list []]
theorem n0 : num 0 = [0] := DO (by decide)
theorem n1 : num 1 = [1] := DO (by decide)
theorem n2 : num 2 = [2] := DO (by decide)
theorem n3 : num 3 = [3] := DO (by decide)
theorem n4 : num 4 = [4] := DO (by decide)
theorem NK {most long : Nat} (hm : 1 ≤ most) : enc most long Jy ws0 = some ⟨[0, 0, 0, 0, 0, 0, 0, 0, 0, 0], [⟨#[]⟩], 0⟩ := by
 have h : ¬ (most < 0 + 1 ∨ long < 0) := by omega
 simp only [Jy, enc, BU, SN.deep, ws0, WS.str, WS.num, List.findIdx?_nil, List.length_nil, n0, Option.bind_some, List.nil_append, if_neg h, Option.map_some, List.cons_append]
theorem PU : (bytesP = bytesF) = False := by simp [bytesP, bytesF]
theorem Qk : (bytesP = ⟨#[]⟩) = False := by simp [bytesP]
theorem PP : (bytesF = ⟨#[]⟩) = False := by simp [bytesF]
theorem R8 : GU 0 = 0 := by decide
theorem Ot {most long : Nat} (hm : 1 ≤ most) : enc most long IG ws0 = some ⟨[0, 0, 0, 0, 0, 0, 0, 2, 0, 1, 0, 0, 2, 0, 0, 1, 0, 0, 2, 0, 0, 0], [bytesP, bytesF, ⟨#[]⟩], 0⟩ := by
 have h : ¬ most = 0 := by omega
 simp [IG, Ig, enc, BU, SN.deep, ws0, WS.str, WS.num, n0, n1, n2, h, PU, Qk, PP, R8, List.findIdx?_cons]
def Kp : List UInt8 := [67, 72, 83, 76, 1, 0, 0, 0, 0, 0, 0, 0, 0, 0, 0, 0]
def J0 : List UInt8 := [67, 72, 83, 76, 3, 1, 112, 4, 102, 97, 105, 108, 0, 0, 0, 0, 0, 0, 0, 0, 2, 0, 1, 0, 0, 2, 0, 0, 1, 0, 0, 2, 0, 0, 0]
theorem La (x : BitVec 32) : (Mh x).length = 4 := rfl
theorem Ma : CH Jy = some (BP Kp) := by
 have hf : DE ⟨[0, 0, 0, 0, 0, 0, 0, 0, 0, 0], [⟨#[]⟩], 0⟩ = BP Kp := by
  unfold DE
  simp only [List.length_cons, List.length_nil, Nat.zero_add, n1, Bi, D3, List.append_nil]
  have : (⟨#[]⟩ : ByteArray).size = 0 := rfl
  rw [this, n0]; rfl
 unfold CH Dk
 rw [NK (by decide)]
 simp only [Option.bind_some, hf]
 rw [if_neg (by simp)]
 simp only [Option.bind_some]
 rw [if_neg (by unfold BP; simp [La, Kp])]
theorem Jx : CH IG = some (BP J0) := by
 have hf : DE ⟨[0, 0, 0, 0, 0, 0, 0, 2, 0, 1, 0, 0, 2, 0, 0, 1, 0, 0, 2, 0, 0, 0], [bytesP, bytesF, ⟨#[]⟩], 0⟩ = BP J0 := by
  unfold DE
  simp only [List.length_cons, List.length_nil, Nat.zero_add, Nat.reduceAdd, n3, Bi, D3, List.append_nil]
  have h1 : (⟨#[]⟩ : ByteArray).size = 0 := rfl
  have h2 : bytesP.size = 1 := rfl
  have h3 : bytesF.size = 4 := rfl
  rw [h1, h2, h3, n0, n1, n4]; rfl
 unfold CH Dk
 rw [Ot (by decide)]
 simp only [Option.bind_some, hf]
 rw [if_neg (by simp)]
 simp only [Option.bind_some]
 rw [if_neg (by unfold BP; simp [La, J0])]
theorem LO {bs : List UInt8} {t t' : T} (h : DZ bs t) (h' : DZ bs t') : t = t' := by
 obtain ⟨tab, r, s', hb, _, hc, _⟩ := h.parse
 obtain ⟨tab', r', s'', hb', _, hc', _⟩ := h'.parse
 obtain ⟨rfl, rfl⟩ := LW (hb.symm.trans hb')
 exact (G9 _ _ _ _ _ _ hc hc').1
theorem OV : Kd IG (.st .sheet) := by
 simp [IG, Ig, Kd, OX, KdF, SN.fields, Bu]
theorem LM : DZ (BP J0) IG := If OV Jx
end Go.Sx
namespace Go.Sx
open Go.Proofs Go.Proofs.Tryz
def modeC : List Value := [.string bytesP, .string bytesF, .bool false, .bool false, .string ⟨#[]⟩, .int .i64 0]
def MS (b : Nat) : List Value := [.string bytesP, .slice none 0 0, .slice none 0 0, .slice none 0 0, .slice none 0 0, .slice none 0 0, .slice none 0 0, .slice (some ⟨b, 0, none⟩) 2 2, .slice none 0 0, .slice none 0 0]
theorem LF {w : World} : (Instr.build 84 #[(0, .string bytesP), (1, .string bytesF)]).run prog w = .ok (.agg modeC.toArray) w := by
 simp [Instr.build, zeroValue84, runUnderlying84, Value.cells, Instr.fill, sizeOf9, modeC]
theorem Ok {w : World} {b : Nat} : (Instr.build 36 #[(0, .string bytesP), (7, .slice (some ⟨b, 0, none⟩) 2 2)]).run prog w = .ok (.agg (MS b).toArray) w := by
 simp [Instr.build, zeroValue36, runUnderlying36, Value.cells, Instr.fill, sizeOf9, sizeOf32, MS]
theorem N_ {w : World} : (Instr.buildSlice 32 2 #[(0, .agg modeC.toArray), (1, .agg modeC.toArray)]).run prog w = .ok (.slice (some ⟨w.heap.size, 0, none⟩) 2 2) (w.alloc (.cells (modeC ++ modeC).toArray 84)) := by
 obtain ⟨bytes, ⟨i, z, h1, h2, h3, h4, h5⟩, _⟩ : ∃ bytes, Ck prog 84 6 bytes ∧ bytes ≤ 4096 := B7 (by kernel_rfl)
 refine run_buildSlice w 32 84 2 _ _ i z underlying32 h1 h2 (by rw [h4]; decide) (by rw [h4]; decide) ?_
 rw [h4]
 have := Go.Great.fill_whole (s := 6) (by decide) [.agg modeC.toArray, .agg modeC.toArray] ((Array.range (2 * 6)).map (z.cells[· % z.cells.size]!)) (by simp [Value.cells, modeC]) (by simp)
 simpa [Value.cells] using this
theorem NZ {w : World} {b : Nat} (hb : Blk w b (modeC ++ modeC) 84) : Rep w (fun k => k = b) IG (.st .sheet) (MS b) := by
 have hm : ∀ o, At w b o modeC → (∃ ds, At w b o ds ∧ ds.length = Ty.size (.st .mode) ∧ Rep w (fun k => k = b) Ig (.st .mode) ds) := by
  intro o ha
  refine ⟨modeC, ha, rfl, ?_⟩
  have hp : bytesP.size ≤ maxLen := Nat.le_trans (show bytesP.size ≤ 4 by decide) (by simp [maxLen])
  have hf : bytesF.size ≤ maxLen := Nat.le_trans (show bytesF.size ≤ 4 by decide) (by simp [maxLen])
  simp only [Ig, modeC, Rep, RepF, SN.fields, SN.size, Ty.size, List.length_cons, List.length_nil, List.drop_succ_cons, List.drop_zero, List.take_succ_cons, List.take_zero, Nat.reduceAdd, true_and, and_true]
  exact ⟨hp, hf, Nat.zero_le _, by unfold Bu; decide⟩
 have hl : RepL w (fun k => k = b) (.st .mode) [Ig, Ig] b 0 := by
  simp only [RepL]
  exact ⟨hm 0 hb.all.left, hm _ (by have := hb.all.right; exact this), trivial⟩
 have hp : bytesP.size ≤ maxLen := Nat.le_trans (show bytesP.size ≤ 4 by decide) (by simp [maxLen])
 simp only [IG, MS, Rep, RepF, SN.fields, SN.size, Ty.size, List.length_cons, List.length_nil, List.drop_succ_cons, List.drop_zero, List.take_succ_cons, List.take_zero, Nat.reduceAdd, Jc, true_and, and_true, true_or]
 exact ⟨hp, .inr ⟨b, 0, 2, rfl, rfl, hb.lt, Nat.le_refl _, by simp [maxLen], hl⟩⟩
theorem Jo (bs : List UInt8) : (BP bs).take bs.length = bs := by unfold BP; exact List.take_left
theorem EN (bs : List UInt8) : (BP bs).length = bs.length + 4 := by unfold BP; rw [List.length_append, La]
theorem Jv {P : Program} {w : World} {t : TypeId} {x y : ByteArray} : (binOp .eql t (.string x) (.string y)).run P w = .ok (.bool (decide (x = y))) w := by
 have h1 : binOp .eql t (.string x) (.string y) = pure (.bool (x.toList == y.toList)) := rfl
 have h2 : (x.toList == y.toList) = decide (x = y) := by
  rw [Go.Lib.toList_data, Go.Lib.toList_data, Bool.eq_iff_iff]
  simp only [beq_iff_eq, decide_eq_true_eq]
  exact ⟨toList_inj, fun e => by rw [e]⟩
 rw [h1, h2]; rfl
theorem GH {P : Program} {w : World} {t : TypeId} {x : ByteArray} : (binOp .neq t (.string x) (.string x)).run P w = .ok (.bool false) w := by
 rw [Du]; simp
theorem IE {P : Program} {w : World} {t : TypeId} {x : ByteArray} : (binOp .eql t (.string x) (.string x)).run P w = .ok (.bool true) w := by
 rw [Jv]; simp
theorem QA {w : World} : Calls prog 13 ([] : List Value).toArray w (Dq (fun v w' => v = .bool true ∧ Fr (fun _ => False) w (fun _ => False) w') (fun _ _ => False)) := by
 refine AB 81 func13 V V V ?_
 refine Af (Aa (Ah V V (Ae ?_)))
 refine Af (Aa (Cl V Db V (Aj call23 V V (RI (S := fun _ => False) Hc (by decide)) ?_ Be)))
 rintro _ w1 ⟨va, f1, h1⟩
 rw [Ma] at h1
 obtain ⟨rfl, ra⟩ := h1
 refine Ac V V (Cn V V V (Cn V V V (Ah V V (Ah V V (Ar [(1, va), (2, .int .i64 0)] ⟨V, V, trivial⟩ ?_)))))
 refine Af (Aa (Cl V LF V (Cl V LF V (A7 V N_ V (Cl V Ok V ?_)))))
 have b2 : Blk (w1.alloc (.cells (modeC ++ modeC).toArray 84)) w1.heap.size (modeC ++ modeC) 84 := AN
 have f2 : Fr (fun _ => False) w1 (fun _ => False) (w1.alloc (.cells (modeC ++ modeC).toArray 84)) := Fr.alloc _ _ _
 generalize w1.alloc (.cells (modeC ++ modeC).toArray 84) = w2 at b2 f2 ⊢
 refine Aj call23 V V (RI (NZ b2) (by decide)) ?_ Be
 rintro _ w3 ⟨vb, f3, h3⟩
 rw [Jx] at h3
 obtain ⟨rfl, rb⟩ := h3
 refine Ac V V (Cn V V V (Cn V V V (Ah V V (Ah V V (Ar [(1, va), (2, .int .i64 0), (3, vb), (4, .int .i64 0)] ⟨V, V, V, V, trivial⟩ ?_)))))
 have ra3 := AP ra (fun k hk => (f3.blk k (Nat.lt_of_lt_of_le (AT ra hk) f2.size) (fun h => h)).trans (f2.blk k (AT ra hk) (fun h => h)))
 have F3 : Fr (fun _ => False) w (fun _ => False) w3 := (f1.none.trans f2).trans f3.none
 have hA := BH ra3
 have hB := BH rb
 have la : (BP Kp).length = 20 := EN _
 have lb : (BP J0).length = 39 := EN _
 obtain ⟨va', hsa, hba, _⟩ := Do hA (lo := none) (hi := some (.int .i64 16)) (l := 0) (k := 16) (.inl ⟨rfl, rfl⟩) (.inr rfl) (Nat.zero_le _) (by omega)
 obtain ⟨vb', hsb, hbb, _⟩ := Do hB (lo := none) (hi := some (.int .i64 35)) (l := 0) (k := 35) (.inl ⟨rfl, rfl⟩) (.inr rfl) (Nat.zero_le _) (by omega)
 rw [List.drop_zero, show (BP Kp).take 16 = Kp from Jo Kp] at hba
 rw [List.drop_zero, show (BP J0).take 35 = J0 from Jo J0] at hbb
 obtain ⟨ga, ca, hva, _⟩ := hA.val
 obtain ⟨gb, cb, hvb, _⟩ := hB.val
 rw [la] at hva; rw [lb] at hvb
 subst hva hvb
 refine Af (Aa (Ah V V (Ae ?_)))
 refine Af (Af (Aa (Ac V V (Al V V (BO (c := false) V) V (Ac V V ?_)))))
 refine Ag (j := 2) V V V (Ac V V (Ag (j := 2) V V V (Al V V (BO (c := false) V) V (AI V V V (Ac V V ?_)))))
 refine Ag (j := 6) V V V (Ac V V (Ag (j := 6) V V V (AE V (Ay underlying22) V (Ag (j := 6) V V V (Al V V (BO (c := false) V) V (AI V V V (Ac V V ?_)))))))
 refine Ag (j := 11) V V V (Ac V V (Ag (j := 11) V V V (DV (vl := none) (vh := some (.int .i64 16)) V V V (hsa _) V (Ag (j := 11) V V V (AJ V (Cx hba) V (Ag (j := 11) V V V (Dh V V GH V ?_)))))))
 refine AI V V V (Ac V V ?_)
 refine Ag (j := 17) V V V (Ac V V (Ag (j := 17) V V V (AE V (Ay underlying22) V (Ag (j := 17) V V V (Ac V V (Ag (j := 17) V V V (AE V (GL underlying9) V ?_)))))))
 refine Ag (j := 17) V V V (Al (v := .int .i64 39) V V V V (Ag (j := 17) V V V (Al V V (BO (c := false) V) V (AI V V V (Ac V V ?_)))))
 refine Ag (j := 25) V V V (Ac V V (Ag (j := 25) V V V (Ac V V (Ag (j := 25) V V V (AE (v := .int .i64 35) V (GL underlying9) V ?_)))))
 refine Ag (j := 25) V V V (DV (vl := none) (vh := some (.int .i64 35)) V V V (hsb _) V (Ag (j := 25) V V V (AJ V (Cx hbb) V (Ag (j := 25) V V V (Ac V V (Ag (j := 25) V V V (Dh V V GH V ?_)))))))
 refine AI V V V (Ae (A9 V (A_ fun a ha => Ad ?_)))
 refine A8 ha (Af (Aa (Ac V V (Aj call15 V V (RD hB) ?_ Be))))
 rintro _ w4 ⟨cs, e, rfl, f4, hd⟩
 rcases hd with ⟨t, ht, rfl, hrep⟩ | ⟨hno, _⟩
 rotate_left
 · exact absurd LM (hno _)
 obtain rfl := LO ht LM
 have hrep0 := hrep
 have F4 := F3.trans f4
 simp only [IG, Rep, RepF, SN.fields, Ty.size, Nat.reduceAdd] at hrep
 obtain ⟨_, hlen, ⟨h0, _⟩, _, _, _, _, _, _, h7, _⟩ := hrep
 have hlen' : cs.length = 10 := hlen
 rcases h7 with ⟨_, h7⟩ | ⟨b, o, cap, h7, hSb, hbl, _, _, hRL⟩
 · cases h7
 obtain ⟨ds, hat, hdl, hmode⟩ := RepL.get hRL (i := 1) (t := Ig) rfl
 simp only [Ig, Rep, RepF, SN.fields, Ty.size, Nat.reduceAdd] at hmode
 obtain ⟨_, _, _, ⟨hd1, _⟩, _⟩ := hmode
 refine Ac V V (Cn V V V (Cn V V V (AO (Iy _) V ?_)))
 have a5 : Blk (w4.alloc (.cells zsheet.toArray 36)) w4.heap.size zsheet 36 := AN
 have f5 : Fr (fun _ => False) w4 (fun _ => False) (w4.alloc (.cells zsheet.toArray 36)) := Fr.alloc _ _ _
 have s5 : (w4.alloc (.cells zsheet.toArray 36)).heap.size = w4.heap.size + 1 := by simp
 show WL _ _ _ _ _ _ _ (w4.alloc (.cells zsheet.toArray 36))
 generalize w4.alloc (.cells zsheet.toArray 36) = w5 at a5 f5 s5 ⊢
 have hone : ∀ x ∈ cs, x.oneCell' = true := (Rep.one _ _ _ hrep0).2
 refine An V V (EW a5 V hlen' hone) (Ah V V (Ar [(6, ptr w4.heap.size), (7, .int .i64 0)] ⟨V, V, trivial⟩ ?_))
 have a6 : Blk (w5.setRow w4.heap.size cs.toArray) w4.heap.size cs 36 := a5.setRow _
 have k6 : (w5.setRow w4.heap.size cs.toArray).heap[b]? = w4.heap[b]? := (setRow_other _ _ _ _ (by omega)).trans (f5.blk b hbl (fun h => h))
 have F6 : Fr (fun _ => False) w (fun _ => False) (w5.setRow w4.heap.size cs.toArray) := by
  have hs := F4.size
  have := Gs (v := .slice none 0 0) F4 (O := fun k => w4.heap.size ≤ k) (O' := fun k => w4.heap.size ≤ k) ((f5.drop (fun _ h => h.elim)).trans (Fr.setRow cs.toArray (Nat.le_refl _))) (fun k hk => by omega) (fun k hk => (E6 k hk).elim)
  rwa [G8] at this
 generalize w5.setRow w4.heap.size cs.toArray = w6 at a6 k6 F6 ⊢
 have g0 : w6.cell? ⟨w4.heap.size, 0, none⟩ = some (.string bytesP) := At.one (h0 ▸ a6.at_ 0 1)
 have g7 : w6.cell? ⟨w4.heap.size, 7, none⟩ = some (.slice (some ⟨b, o, none⟩) 2 cap) := At.one (h7 ▸ a6.at_ 7 1)
 have g1 : w6.cell? ⟨b, o + 1 * 6 + 1, none⟩ = some (.string bytesF) := by
  have := At.one (hd1 ▸ (hat.agree k6).sub 1 1)
  exact this
 have hidx : (Instr.indexAt 32 (.slice (some ⟨b, o, none⟩) 2 cap) (.int .i64 1)).run prog w6 = .ok (.pointer (some ⟨b, o + 1 * 6, none⟩)) w6 :=
  Hl (i := 1) underlying32 Gz (by decide)
 have ty32 : By prog 32 false 1 := GV
 refine Af (Aa (Ac V V (Al V V (Ej (c := true) V) V (Ac V V ?_))))
 refine Ag (j := 2) V V V (Ab V (G_ _ _ _) V (Ag (j := 2) V V V (Ai V (A4 MM g0) V (Ag (j := 2) V V V (Dh V V IE V (AI V V V (Ac V V ?_)))))))
 refine Ag (j := 7) V V V (Ab V (CO _ _ _) V (Ag (j := 7) V V V (Ai V (A4 ty32 g7) V (Ag (j := 7) V V V (AE V (Ay underlying32) V ?_)))))
 refine Ag (j := 7) V V V (Al V V (Ej (c := true) V) V (AI V V V (Ac V V ?_)))
 refine Ag (j := 13) V V V (Ab V (CO _ _ _) V (Ag (j := 13) V V V (Ai V (A4 ty32 g7) V (Ag (j := 13) V V V (A0 V V hidx V (Ag (j := 13) V V V (Ab V (IQ _ _ _) V ?_)))))))
 refine Ag (j := 13) V V V (Ai V (A4 MM g1) V (Ag (j := 13) V V V (Dh V V IE V (AI V V V (Ah V V (Ae (AA fun a ha => Au V ha V ⟨rfl, F6⟩)))))))
end Go.Sx
namespace Go.Sx
end Go.Sx
namespace Go.Sx
open Go.Proofs Go.Proofs.Tryz
end Go.Sx
namespace Go.Sx
open Go.Proofs Go.Proofs.Tryz
theorem HT {w : World} {cs : List Value} (hl : cs.length = 10) (h1 : ∀ x ∈ cs, x.oneCell' = true) : ∃ w', (storeVar 36 ⟨w.heap.size, 0, none⟩ (.agg cs.toArray)).run prog (w.alloc (.cells zsheet.toArray 36)) = .ok () w' ∧ Blk w' w.heap.size cs 36 ∧ Fr (fun _ => False) w (fun _ => False) w' := by
 have a : Blk (w.alloc (.cells zsheet.toArray 36)) w.heap.size zsheet 36 := AN
 refine ⟨_, EW a V hl h1, a.setRow _, ⟨rfl, rfl, rfl, by simp, fun b hb _ => ?_, fun b hb => hb.elim⟩⟩
 rw [setRow_other _ _ _ _ (by omega), heap_alloc_old w _ b hb]
end Go.Sx
namespace Go.Sx
theorem MX : ∀ {l : List ByteArray} {x : ByteArray}, x ∈ l → x.size ≤ Lz l
 | y :: l, x, h => by
  simp only [Lz]
  rcases List.mem_cons.1 h with rfl | h
  · omega
  · have := MX h; omega
def eS : T := .str ⟨#[]⟩
def Nd : T := .agg .test [.int 0, eS]
def Na : T := .agg .type [.int 0, .int 0, Nd, eS]
def KG (l : List T) : T := .agg .expr [.int 0, eS, eS, .int 0, .agg .atom [.int 0, eS], .int 0, Nd, Na, .list [], .list l]
def Mt (l : List T) : T := .agg .instr [.int 0, eS, eS, .list [], .list [], .bool false, KG [], KG [], Na, .list [], .list [], .list [], .list [], .list l, .list [], .int 0, .int 0]
end Go.Sx
