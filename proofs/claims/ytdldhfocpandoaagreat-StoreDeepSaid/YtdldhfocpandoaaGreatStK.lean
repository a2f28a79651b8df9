import Derived.Test.YtdldhfocpandoaaGreatStI
/- DERIVED. How deep a datum is nested, and what that means for what is written: the plain law of StoreDeep. -/
namespace Go.Sx

mutual
/-- How deep instructions, expressions and stylesheets are nested. -/
def T.dp : T → Nat
  | .list l => T.dps l
  | .ptr t => t.dp
  | .agg sn l => match sn.deep with
    | true => T.dps l + 1
    | false => T.dps l
  | _ => 0
def T.dps : List T → Nat
  | [] => 0
  | t :: l => max t.dp (T.dps l)
end

mutual
theorem enc_dp {most long : Nat} : ∀ (t : T) (s s' : WS), enc most long t s = some s' → 0 < t.dp → s.nest + t.dp ≤ most
  | .int n, s, s', h, hp => by simp [T.dp] at hp
  | .bool b, s, s', h, hp => by simp [T.dp] at hp
  | .str x, s, s', h, hp => by simp [T.dp] at hp
  | .nil, s, s', h, hp => by simp [T.dp] at hp
  | .ptr t, s, s', h, hp => by
    simp only [enc] at h
    simp only [T.dp] at hp ⊢
    exact enc_dp t (s.num 1) _ h hp
  | .list l, s, s', h, hp => by
    simp only [enc] at h
    simp only [T.dp] at hp ⊢
    exact encL_dp l (s.num l.length) _ h hp
  | .agg sn l, s, s', h, hp => by
    simp only [enc] at h
    simp only [T.dp] at hp ⊢
    cases hd : sn.deep with
    | false =>
      rw [hd] at h hp
      exact encL_dp l _ _ h hp
    | true =>
      rw [hd] at h
      simp only at h ⊢
      split at h
      · cases h
      · rename_i hno
        simp only [Option.map_eq_some_iff] at h
        obtain ⟨u, hu, rfl⟩ := h
        by_cases h0 : 0 < T.dps l
        · have := encL_dp l _ _ hu h0
          simp only at this
          omega
        · omega
theorem encL_dp {most long : Nat} : ∀ (l : List T) (s s' : WS), encL most long l s = some s' → 0 < T.dps l → s.nest + T.dps l ≤ most
  | [], s, s', h, hp => by simp [T.dps] at hp
  | t :: l, s, s', h, hp => by
    simp only [encL, Option.bind_eq_some_iff] at h
    obtain ⟨u, h1, h2⟩ := h
    have hn := (enc_mono t _ _ h1).2
    simp only [T.dps] at hp ⊢
    have a : 0 < t.dp → s.nest + t.dp ≤ most := enc_dp t _ _ h1
    have b : 0 < T.dps l → u.nest + T.dps l ≤ most := encL_dp l _ _ h2
    rw [hn] at b
    by_cases h3 : t.dp ≤ T.dps l
    · rw [Nat.max_eq_right h3] at hp ⊢; exact b hp
    · rw [Nat.max_eq_left (by omega)] at hp ⊢; exact a hp
end

mutual
/-- What is not nested too deeply, and not too long, is written. -/
theorem enc_ok {most long : Nat} (hl40 : long ≤ 2 ^ 40) : ∀ (t : T) (s : WS), s.nest + t.dp ≤ most → s.use + 11 * t.wt ≤ long → ∃ s', enc most long t s = some s'
  | .int n, s, _, _ => by simp only [enc]; exact ⟨_, rfl⟩
  | .bool b, s, _, _ => by simp only [enc]; exact ⟨_, rfl⟩
  | .str x, s, _, _ => by simp only [enc]; exact ⟨_, rfl⟩
  | .nil, s, _, _ => by simp only [enc]; exact ⟨_, rfl⟩
  | .ptr t, s, hd, hu => by
    simp only [enc]
    have h1 := WS.num_use (s := s) (n := 1) (by decide)
    simp only [T.dp, T.wt] at hd hu
    exact enc_ok hl40 t (s.num 1) hd (by omega)
  | .list l, s, hd, hu => by
    simp only [enc]
    simp only [T.dp, T.wt] at hd hu
    have hl := T.wts_len l
    have h1 := WS.num_use (s := s) (n := l.length) (by omega)
    exact encL_ok hl40 l (s.num l.length) hd (by omega)
  | .agg sn l, s, hd, hu => by
    simp only [enc]
    simp only [T.dp, T.wt] at hd hu
    cases hs : sn.deep with
    | false =>
      rw [hs] at hd
      exact encL_ok hl40 l s hd (by omega)
    | true =>
      rw [hs] at hd
      simp only at hd ⊢
      have hb : s.b.length ≤ s.use := by unfold WS.use; omega
      rw [if_neg (by omega)]
      obtain ⟨s', h'⟩ := encL_ok (most := most) hl40 l { s with nest := s.nest + 1 } (by simp only; omega) (by simp only [WS.use] at hu ⊢; omega)
      exact ⟨_, by rw [h']; rfl⟩
theorem encL_ok {most long : Nat} (hl40 : long ≤ 2 ^ 40) : ∀ (l : List T) (s : WS), s.nest + T.dps l ≤ most → s.use + 11 * T.wts l ≤ long → ∃ s', encL most long l s = some s'
  | [], s, _, _ => by simp only [encL]; exact ⟨_, rfl⟩
  | t :: l, s, hd, hu => by
    simp only [T.dps, T.wts] at hd hu
    have m1 := Nat.le_max_left t.dp (T.dps l)
    have m2 := Nat.le_max_right t.dp (T.dps l)
    obtain ⟨u, hu1⟩ := enc_ok (most := most) hl40 t s (by omega) (by omega)
    have h2 := enc_use t s u hu1 (by omega)
    obtain ⟨s', h'⟩ := encL_ok (most := most) hl40 l u (by omega) (by omega)
    exact ⟨s', by simp only [encL, hu1, Option.bind_some]; exact h'⟩
end

theorem bytes_ok {most long : Nat} {t : T} (hl : long ≤ 2 ^ 40) (hd : t.dp ≤ most) (hw : 11 * t.wt ≤ long) :
    ∃ s', enc most long t ws0 = some s' ∧ s'.b.length ≤ 11 * t.wt ∧ s'.tab.length ≤ 11 * t.wt ∧ bytesOf most long t = some (fullOf s') := by
  obtain ⟨s', h⟩ := enc_ok hl t ws0 (by simpa [ws0] using hd) (by simpa [ws0, WS.use] using hw)
  have hu := (enc_use t ws0 s' h (by simp only [ws0, WS.use, List.length_nil]; omega)).1
  simp only [ws0, WS.use, List.length_nil] at hu
  refine ⟨s', h, by omega, by omega, ?_⟩
  unfold bytesOf
  rw [h]
  simp only [Option.bind_some]
  rw [if_neg (by omega)]

theorem same_refl {t : T} (hd : t.dp ≤ 9223372036854775807) (hw : 11 * t.wt ≤ 67108864) : sameOf t t = true := by
  obtain ⟨s', _, _, _, h⟩ := bytes_ok (most := 9223372036854775807) (long := 67108864) (by decide) hd hw
  unfold sameOf; rw [h]; simp

/-- Too deep: refused. -/
theorem encode_deep {t : T} (hd : 1000 < t.dp) : encodeOf t = none := by
  unfold encodeOf bytesOf
  cases h : enc 1000 16777216 t ws0 with
  | none => rfl
  | some s' => have := enc_dp t _ _ h (by omega); simp only [ws0] at this; omega

theorem tsz_mem : ∀ {l : List ByteArray} {x : ByteArray}, x ∈ l → x.size ≤ tsz l
  | y :: l, x, h => by
    simp only [tsz]
    rcases List.mem_cons.1 h with rfl | h
    · omega
    · have := tsz_mem h; omega

theorem encode_ok {t : T} (hd : t.dp ≤ 1000) (hw : 122 * t.wt + 100 ≤ 16777216) : ∃ bs, encodeOf t = some bs := by
  obtain ⟨s', h, h1, h2, h3⟩ := bytes_ok (most := 1000) (long := 16777216) (t := t) (by decide) hd (by omega)
  refine ⟨fullOf s', ?_⟩
  unfold encodeOf
  rw [h3]
  simp only [Option.bind_some]
  have ht := enc_tsz t _ _ h
  have ht0 : tsz ws0.tab = 0 := rfl
  have he := entries_len s'.tab (fun x hx => by have := tsz_mem hx; simp only [maxLen]; omega)
  have hn := num_len10 (n := s'.tab.length) (by omega)
  have hm : magicB.length = 4 := rfl
  have hbt : s'.b.length ≤ 11 * t.wt := h1
  rw [if_neg]
  unfold fullOf
  rw [sealed_len]
  simp only [List.length_append]
  omega

/-! ## What StoreDeep nests -/
def eS : T := .str ⟨#[]⟩
def testT : T := .agg .test [.int 0, eS]
def typeT : T := .agg .type [.int 0, .int 0, testT, eS]
def exprT (l : List T) : T := .agg .expr [.int 0, eS, eS, .int 0, .agg .atom [.int 0, eS], .int 0, testT, typeT, .list [], .list l]
def instrT (l : List T) : T := .agg .instr [.int 0, eS, eS, .list [], .list [], .bool false, exprT [], exprT [], typeT, .list [], .list [], .list [], .list [], .list l, .list [], .int 0, .int 0]
def templateT (l : List T) : T := .agg .template [.list [], eS, .list [], .bool false, eS, .list [], .list l, eS, .int 0, .int 0, .int 0, .int 0]
def keyT (x : T) : T := .agg .key [eS, .list [], x]
def sheetTm (l : List T) : T := .agg .sheet [eS, .list [], .list [templateT l], .list [], .list [], .list [], .list [], .list [], .list [], .list []]
def sheetKy (x : T) : T := .agg .sheet [eS, .list [], .list [], .list [], .list [], .list [keyT x], .list [], .list [], .list [], .list []]
def nestI : Nat → List T
  | 0 => []
  | n + 1 => [instrT (nestI n)]
def nestE : Nat → T
  | 0 => exprT []
  | n + 1 => exprT [nestE n]

theorem dp_expr (l : List T) : (exprT l).dp = T.dps l + 1 := by
  simp [exprT, T.dp, T.dps, SN.deep, testT, typeT, eS]
theorem dp_instr (l : List T) : (instrT l).dp = max 1 (T.dps l) + 1 := by
  have h : (exprT []).dp = 1 := by rw [dp_expr]; rfl
  simp only [instrT, T.dp, T.dps, SN.deep, testT, typeT, eS, h]
  omega
theorem dps_nestI : ∀ n, T.dps (nestI n) = if n = 0 then 0 else n + 1
  | 0 => rfl
  | n + 1 => by
    simp only [nestI, T.dps, dp_instr, dps_nestI n]
    rw [if_neg (Nat.succ_ne_zero n)]
    split <;> omega
theorem dp_nestE : ∀ n, (nestE n).dp = n + 1
  | 0 => by simp only [nestE, dp_expr, T.dps]
  | n + 1 => by simp only [nestE, dp_expr, T.dps, dp_nestE n]; omega
theorem dp_sheetTm (l : List T) : (sheetTm l).dp = T.dps l + 1 := by
  simp [sheetTm, templateT, T.dp, T.dps, SN.deep, eS]
theorem dp_sheetKy (x : T) : (sheetKy x).dp = x.dp + 1 := by
  simp [sheetKy, keyT, T.dp, T.dps, SN.deep, eS]

theorem wt_eS : eS.wt = 1 := rfl
theorem wt_testT : testT.wt = 3 := rfl
theorem wt_typeT : typeT.wt = 7 := rfl
theorem wt_expr (l : List T) : (exprT l).wt = T.wts l + 21 := by
  simp only [exprT, T.wt, T.wts, wt_eS, wt_testT, wt_typeT]; omega
theorem wt_instr (l : List T) : (instrT l).wt = T.wts l + 64 := by
  simp only [instrT, T.wt, T.wts, wt_eS, wt_typeT, wt_expr]; omega
theorem wts_nestI : ∀ n, T.wts (nestI n) = 64 * n
  | 0 => rfl
  | n + 1 => by simp only [nestI, T.wts, wt_instr, wts_nestI n]; omega
theorem wt_nestE : ∀ n, (nestE n).wt = 21 * (n + 1)
  | 0 => by simp only [nestE, wt_expr, T.wts]
  | n + 1 => by simp only [nestE, wt_expr, T.wts, wt_nestE n]; omega
theorem wt_sheetTm (l : List T) : (sheetTm l).wt = T.wts l + 24 := by
  simp only [sheetTm, templateT, T.wt, T.wts, wt_eS]; omega
theorem wt_sheetKy (x : T) : (sheetKy x).wt = x.wt + 14 := by
  simp only [sheetKy, keyT, T.wt, T.wts, wt_eS]; omega
end Go.Sx

/- DERIVED. StoreDeep, walked. -/
namespace Go.Sx
open Go.Proofs

def sl0 : Value := .slice none 0 0
def s00 : Value := .string ⟨#[]⟩
def i00 : Value := .int .i64 0
def zexpr (v : Value) : List Value := [i00, s00, s00, i00, i00, s00, i00, i00, s00, i00, i00, i00, s00, s00, sl0, v]
def zinstr (v : Value) : List Value := [i00, s00, s00, sl0, sl0, .bool false, i00, s00, s00, i00, i00, s00, i00, i00, s00, i00, i00, i00, s00, s00, sl0, sl0,
  i00, s00, s00, i00, i00, s00, i00, i00, s00, i00, i00, i00, s00, s00, sl0, sl0, i00, i00, i00, s00, s00, sl0, sl0, sl0, sl0, v, sl0, i00, i00]
def ztemplate (v : Value) : List Value := [sl0, s00, sl0, .bool false, s00, sl0, v, s00, i00, i00, i00, i00]
def zkey (cs : List Value) : List Value := [s00, sl0] ++ cs
def zsheetTm (v : Value) : List Value := [s00, sl0, v, sl0, sl0, sl0, sl0, sl0, sl0, sl0]
def zsheetKy (v : Value) : List Value := [s00, sl0, sl0, sl0, sl0, v, sl0, sl0, sl0, sl0]

section
variable {w : World}
theorem run_instr {g : Option Addr} {l c : Nat} : (Instr.build 72 #[(13, .slice g l c)]).run Tryz.prog w = .ok (.agg (zinstr (.slice g l c)).toArray) w := by
  simp [Instr.build, Tryz.zeroValue72, Tryz.runUnderlying72, Value.cells, Instr.fill, Tryz.sizeOf56, zinstr, i00, s00, sl0]
theorem run_expr0 : (Instr.build 66 #[]).run Tryz.prog w = .ok (.agg (zexpr sl0).toArray) w := by
  simp [Instr.build, Tryz.zeroValue66, Tryz.runUnderlying66, Value.cells, Instr.fill, zexpr, i00, s00, sl0]
theorem run_expr {g : Option Addr} {l c : Nat} : (Instr.build 66 #[(9, .slice g l c)]).run Tryz.prog w = .ok (.agg (zexpr (.slice g l c)).toArray) w := by
  simp [Instr.build, Tryz.zeroValue66, Tryz.runUnderlying66, Value.cells, Instr.fill, Tryz.sizeOf64, zexpr, i00, s00, sl0]
theorem run_template {g : Option Addr} {l c : Nat} : (Instr.build 74 #[(6, .slice g l c)]).run Tryz.prog w = .ok (.agg (ztemplate (.slice g l c)).toArray) w := by
  simp [Instr.build, Tryz.zeroValue74, Tryz.runUnderlying74, Value.cells, Instr.fill, Tryz.sizeOf56, ztemplate, i00, s00, sl0]
theorem run_key {v : Value} : (Instr.build 76 #[(2, .agg (zexpr v).toArray)]).run Tryz.prog w = .ok (.agg (zkey (zexpr v)).toArray) w := by
  simp [Instr.build, Tryz.zeroValue76, Tryz.runUnderlying76, Value.cells, Instr.fill, Tryz.sizeOf66, zkey, zexpr, i00, s00, sl0]
theorem zero66' : (zeroValue 66).run Tryz.prog w = .ok (.agg (zexpr sl0).toArray) w := Tryz.zeroValue66 w

theorem rep_expr {S : Nat → Prop} {l : List T} {v : Value} (h : Rep w S (.list l) (.list (.st .expr)) [v]) : Rep w S (exprT l) (.st .expr) (zexpr v) := by
  have hs : (ByteArray.mk #[]).size ≤ maxLen := Nat.zero_le _
  have hz : isInt 0 := by unfold isInt; decide
  have hn : ∀ e, Rep w S (.list []) (.list e) [sl0] := by intro e; simp only [Rep, sl0, true_and, true_or]
  simp only [exprT, testT, typeT, eS, zexpr]
  unfold Rep
  refine ⟨rfl, rfl, ?_⟩
  simp only [SN.fields, RepF, SN.size, Ty.size, List.drop_succ_cons, List.drop_zero, List.take_succ_cons, List.take_zero, Nat.reduceAdd]
  refine ⟨?_, ?_, ?_, ?_, ?_, ?_, ?_, ?_, hn _, h, trivial⟩ <;>
    simp only [Rep, RepF, SN.fields, SN.size, Ty.size, i00, s00, List.length_cons, List.length_nil, List.drop_succ_cons, List.drop_zero, List.take_succ_cons, List.take_zero, Nat.reduceAdd, and_true, hs, hz]

theorem rep_instr {S : Nat → Prop} {l : List T} {v : Value} (h : Rep w S (.list l) (.list (.st .instr)) [v]) : Rep w S (instrT l) (.st .instr) (zinstr v) := by
  have hs : (ByteArray.mk #[]).size ≤ maxLen := Nat.zero_le _
  have hz : isInt 0 := by unfold isInt; decide
  have hn : ∀ e, Rep w S (.list []) (.list e) [sl0] := by intro e; simp only [Rep, sl0, true_and, true_or]
  have he : Rep w S (exprT []) (.st .expr) (zexpr sl0) := rep_expr (hn _)
  simp only [instrT, testT, typeT, eS, zinstr]
  simp only [zexpr] at he
  unfold Rep
  refine ⟨rfl, rfl, ?_⟩
  simp only [SN.fields, RepF, SN.size, Ty.size, List.drop_succ_cons, List.drop_zero, List.take_succ_cons, List.take_zero, Nat.reduceAdd]
  refine ⟨?_, ?_, ?_, hn _, hn _, ?_, he, he, ?_, hn _, hn _, hn _, hn _, h, hn _, ?_, ?_, trivial⟩ <;>
    simp only [Rep, RepF, SN.fields, SN.size, Ty.size, i00, s00, List.length_cons, List.length_nil, List.drop_succ_cons, List.drop_zero, List.take_succ_cons, List.take_zero, Nat.reduceAdd, and_true, hs, hz]

theorem rep_template {S : Nat → Prop} {l : List T} {v : Value} (h : Rep w S (.list l) (.list (.st .instr)) [v]) : Rep w S (templateT l) (.st .template) (ztemplate v) := by
  have hs : (ByteArray.mk #[]).size ≤ maxLen := Nat.zero_le _
  have hz : isInt 0 := by unfold isInt; decide
  have hn : ∀ e, Rep w S (.list []) (.list e) [sl0] := by intro e; simp only [Rep, sl0, true_and, true_or]
  simp only [templateT, eS, ztemplate]
  unfold Rep
  refine ⟨rfl, rfl, ?_⟩
  simp only [SN.fields, RepF, Ty.size, List.drop_succ_cons, List.drop_zero, List.take_succ_cons, List.take_zero, Nat.reduceAdd]
  refine ⟨hn _, ?_, hn _, ?_, ?_, hn _, h, ?_, ?_, ?_, ?_, ?_, trivial⟩ <;>
    simp only [Rep, i00, s00, and_true, hs, hz]

theorem rep_key {S : Nat → Prop} {x : T} {cs : List Value} (hl : cs.length = 16) (h : Rep w S x (.st .expr) cs) : Rep w S (keyT x) (.st .key) (zkey cs) := by
  have hs : (ByteArray.mk #[]).size ≤ maxLen := Nat.zero_le _
  have hn : ∀ e, Rep w S (.list []) (.list e) [sl0] := by intro e; simp only [Rep, sl0, true_and, true_or]
  simp only [keyT, eS, zkey]
  unfold Rep
  refine ⟨rfl, by simp [SN.size, hl], ?_⟩
  simp only [SN.fields, RepF, SN.size, Ty.size, List.cons_append, List.nil_append, List.drop_succ_cons, List.drop_zero, List.take_succ_cons, List.take_zero, Nat.reduceAdd]
  refine ⟨?_, hn _, ?_, trivial⟩
  · simp only [Rep, s00, true_and, hs]
  · rw [List.take_of_length_le (by omega)]; exact h

theorem rep_tm {S : Nat → Prop} {l : List T} {v : Value} (h : Rep w S (.list [templateT l]) (.list (.st .template)) [v]) : Rep w S (sheetTm l) (.st .sheet) (zsheetTm v) := by
  have hs : (ByteArray.mk #[]).size ≤ maxLen := Nat.zero_le _
  have hn : ∀ e, Rep w S (.list []) (.list e) [sl0] := by intro e; simp only [Rep, sl0, true_and, true_or]
  simp only [sheetTm, eS, zsheetTm]
  unfold Rep
  refine ⟨rfl, rfl, ?_⟩
  simp only [SN.fields, RepF, Ty.size, List.drop_succ_cons, List.drop_zero, List.take_succ_cons, List.take_zero, Nat.reduceAdd]
  refine ⟨?_, hn _, h, hn _, hn _, hn _, hn _, hn _, hn _, hn _, trivial⟩
  simp only [Rep, s00, true_and, hs]

theorem rep_ky {S : Nat → Prop} {x : T} {v : Value} (h : Rep w S (.list [keyT x]) (.list (.st .key)) [v]) : Rep w S (sheetKy x) (.st .sheet) (zsheetKy v) := by
  have hs : (ByteArray.mk #[]).size ≤ maxLen := Nat.zero_le _
  have hn : ∀ e, Rep w S (.list []) (.list e) [sl0] := by intro e; simp only [Rep, sl0, true_and, true_or]
  simp only [sheetKy, eS, zsheetKy]
  unfold Rep
  refine ⟨rfl, rfl, ?_⟩
  simp only [SN.fields, RepF, Ty.size, List.drop_succ_cons, List.drop_zero, List.take_succ_cons, List.take_zero, Nat.reduceAdd]
  refine ⟨?_, hn _, hn _, hn _, hn _, h, hn _, hn _, hn _, hn _, trivial⟩
  simp only [Rep, s00, true_and, hs]

/-- A list of one. -/
theorem rep_one {S : Nat → Prop} {b : Nat} {t : T} {e : Ty} {cs : List Value} {ty : TypeId} (hS : S b) (hb : Blk w b cs ty) (hl : cs.length = e.size) (hr : Rep w S t e cs) : Rep w S (.list [t]) (.list e) [.slice (some ⟨b, 0, none⟩) 1 1] := by
  simp only [Rep]
  refine .inr ⟨b, 0, 1, rfl, hS, hb.lt, Nat.le_refl _, by simp [maxLen], ?_⟩
  simp only [RepL]
  exact ⟨⟨cs, hb.all, hl, hr⟩, trivial⟩

theorem slice_instr {v : Value} : (Instr.buildSlice 56 1 #[(0, .agg (zinstr v).toArray)]).run Tryz.prog w = .ok (.slice (some ⟨w.heap.size, 0, none⟩) 1 1) (w.alloc (.cells (zinstr v).toArray 72)) := by
  obtain ⟨bytes, he, _⟩ : ∃ bytes, EInfo Tryz.prog 72 51 bytes ∧ bytes ≤ 4096 := einfo_le (by kernel_rfl)
  exact slice_elem Tryz.underlying56 he (by decide) (by decide) rfl rfl
theorem slice_expr {v : Value} : (Instr.buildSlice 64 1 #[(0, .agg (zexpr v).toArray)]).run Tryz.prog w = .ok (.slice (some ⟨w.heap.size, 0, none⟩) 1 1) (w.alloc (.cells (zexpr v).toArray 66)) := by
  obtain ⟨bytes, he, _⟩ : ∃ bytes, EInfo Tryz.prog 66 16 bytes ∧ bytes ≤ 4096 := einfo_le (by kernel_rfl)
  exact slice_elem Tryz.underlying64 he (by decide) (by decide) rfl rfl
theorem slice_template {v : Value} : (Instr.buildSlice 27 1 #[(0, .agg (ztemplate v).toArray)]).run Tryz.prog w = .ok (.slice (some ⟨w.heap.size, 0, none⟩) 1 1) (w.alloc (.cells (ztemplate v).toArray 74)) := by
  obtain ⟨bytes, he, _⟩ : ∃ bytes, EInfo Tryz.prog 74 12 bytes ∧ bytes ≤ 4096 := einfo_le (by kernel_rfl)
  exact slice_elem Tryz.underlying27 he (by decide) (by decide) rfl rfl
theorem slice_key {v : Value} : (Instr.buildSlice 30 1 #[(0, .agg (zkey (zexpr v)).toArray)]).run Tryz.prog w = .ok (.slice (some ⟨w.heap.size, 0, none⟩) 1 1) (w.alloc (.cells (zkey (zexpr v)).toArray 76)) := by
  obtain ⟨bytes, he, _⟩ : ∃ bytes, EInfo Tryz.prog 76 18 bytes ∧ bytes ≤ 4096 := einfo_le (by kernel_rfl)
  exact slice_elem Tryz.underlying30 he (by decide) (by decide) rfl rfl
end
end Go.Sx

/- DERIVED. StoreDeep, walked: the code. -/
namespace Go.Sx
open Go.Proofs

def deepT (k : Bool) (d : Nat) : T := if k then sheetTm (nestI d) else sheetKy (nestE d)

theorem deep_dp (k : Bool) (d : Nat) : (deepT k d).dp = if k ∧ d = 0 then 1 else d + 2 := by
  unfold deepT
  cases k with
  | true =>
    simp only [if_true, true_and]
    rw [dp_sheetTm, dps_nestI]; split <;> rfl
  | false => simp [dp_sheetKy, dp_nestE]

theorem deep_wt {k : Bool} {d : Nat} (h : d < 1010) : (deepT k d).wt ≤ 64 * d + 64 := by
  unfold deepT
  cases k with
  | true => simp only [if_true, wt_sheetTm, wts_nestI]; omega
  | false => simp only [wt_sheetKy, wt_nestE, Bool.false_eq_true, if_false]; omega

theorem deep_none {k : Bool} {d : Nat} (h : 998 < d) : encodeOf (deepT k d) = none := by
  refine encode_deep ?_
  rw [deep_dp, if_neg (by omega)]; omega

theorem deep_some {k : Bool} {d : Nat} (h : d ≤ 998) : ∃ bs, encodeOf (deepT k d) = some bs := by
  refine encode_ok ?_ ?_
  · rw [deep_dp]; split <;> omega
  · have := deep_wt (k := k) (d := d) (by omega); omega

theorem deep_same {k : Bool} {d : Nat} (h : d ≤ 998) : sameOf (deepT k d) (deepT k d) = true := by
  refine same_refl ?_ ?_
  · rw [deep_dp]; split <;> omega
  · have := deep_wt (k := k) (d := d) (by omega); omega

theorem run_rem16 {w : World} {t : TypeId} {n d : Nat} (hd : 0 < d) : (binOp .rem t (.int .u16 (n : Int)) (.int .u16 (d : Int))).run Tryz.prog w = .ok (.int .u16 ((n % d : Nat) : Int)) w := by
  show (Op.intDiv .rem .u16 n d).run Tryz.prog w = _
  have h : ¬ ((d : Int) = 0) := by omega
  simp only [Op.intDiv, h, if_false]
  rw [show (n : Int).tmod (d : Int) = ((n % d : Nat) : Int) from rfl]; rfl

theorem conv_55_3 {w : World} {n : Nat} (h : n < 65536) : (convert 55 3 (.int .u16 (n : Int))).run Tryz.prog w = .ok (.int .i64 (n : Int)) w := by
  have := conv_int (P := Tryz.prog) (w := w) (s := 55) (t := 3) (k' := .u16) (n := (n : Int)) Tryz.runUnderlying55 Tryz.runUnderlying3
  rwa [wrap_i64 (by unfold isInt; omega)] at this

theorem field36_2 : FieldAt Tryz.prog 36 2 2 := fun w b o => by
  simp [Instr.fieldAt, Tryz.runUnderlying36, Instr.sureAddr, fieldPlace, Tryz.sizeOf27, Addr.add_lit]
theorem field36_5 : FieldAt Tryz.prog 36 5 5 := fun w b o => by
  simp [Instr.fieldAt, Tryz.runUnderlying36, Instr.sureAddr, fieldPlace, Tryz.sizeOf30, Addr.add_lit]

/-- 's.F = v', of a slice, into the zero stylesheet. -/
theorem set_sheet {w : World} {t b o l : Nat} {g : Option Addr} {c : Nat} (ht : IsTy Tryz.prog t false 1) (hb : Blk w b zsheet 36) (ho : o < 10) :
    (storeVar t ⟨b, o, none⟩ (.slice g l c)).run Tryz.prog w = .ok () (w.setRow b (splice zsheet o [.slice g l c]).toArray) :=
  store_at ht rfl rfl (by simp [Value.oneCell']) hb (by simp [zsheet]; omega)

theorem zero66 (w : World) : (zeroValue 66).run Tryz.prog w = .ok (.agg (zexpr sl0).toArray) w := Tryz.zeroValue66 w
theorem ty66 : IsTy Tryz.prog 66 true 16 := ⟨Tryz.isAgg66, Tryz.sizeOf66⟩

theorem store66 {w : World} {b : Nat} {cs vs : List Value} (hb : Blk w b cs 66) (hc : cs.length = 16) (hv : vs.length = 16) (h1 : ∀ x ∈ vs, x.oneCell' = true) : (storeVar 66 ⟨b, 0, none⟩ (.agg vs.toArray)).run Tryz.prog w = .ok () (w.setRow b vs.toArray) := by
  have := store_at (P := Tryz.prog) (v := .agg vs.toArray) ty66 rfl hv h1 hb (o := 0) (by omega)
  rwa [show splice cs 0 vs = vs by simp [splice, hc, hv]] at this

theorem zexpr_one {g : Option Addr} {l c : Nat} : ∀ x ∈ zexpr (.slice g l c), x.oneCell' = true := by
  intro x hx; simp only [zexpr, List.mem_cons, List.not_mem_nil, or_false] at hx
  rcases hx with h | h | h | h | h | h | h | h | h | h | h | h | h | h | h | h <;> subst h <;> rfl

set_option maxHeartbeats 1000000 in
theorem c8 {w : World} {n : Nat} {k : Bool} (_hn : n < 65536) : Calls Tryz.prog 8 [.int .u16 (n : Int), .bool k].toArray w (End (fun v w' => v = .bool true ∧ Fr (fun _ => False) w (fun _ => False) w') (fun _ _ => False)) := by
  refine calls_W 76 Tryz.func8 rfl rfl rfl ?_
  refine W.seq (W.region (WL.assign rfl rfl (WL.next ?_)))
  refine W.seq (W.region (WL.move rfl rfl (WL.binInt rfl rfl (run_rem16 (d := 1010) (by decide)) rfl (WL.convert rfl (conv_55_3 (by omega)) rfl (WL.assign rfl rfl (WL.keep [(1, .bool k), (5, .int .i64 ((n % 1010 : Nat) : Int))] ⟨rfl, rfl, trivial⟩ ?_))))))
  have hd : n % 1010 < 1010 := Nat.mod_lt _ (by decide)
  generalize n % 1010 = d at hd ⊢
  refine W.seq (W.region (WL.alloc (zero36 _) rfl (WL.keep [(1, .bool k), (5, .int .i64 (d : Int)), (6, ptr w.heap.size)] ⟨rfl, rfl, rfl, trivial⟩ ?_)))
  have a1 : Blk (w.alloc (.cells zsheet.toArray 36)) w.heap.size zsheet 36 := Blk.alloc_new
  have f1 : Fr (fun _ => False) w (fun _ => False) (w.alloc (.cells zsheet.toArray 36)) := Fr.alloc _ _ _
  show W _ _ _ _ _ _ (w.alloc (.cells zsheet.toArray 36))
  have hb : w.heap.size ≤ w.heap.size := Nat.le_refl _
  generalize w.alloc (.cells zsheet.toArray 36) = w1 at a1 f1 ⊢
  generalize hbw : w.heap.size = b at a1 ⊢
  have fs : ∀ {w2 : World} (c : Array Value), Fr (fun _ => False) w1 (fun _ => False) w2 → Fr (fun _ => False) w (fun _ => False) (w2.setRow b c) := by
    intro w2 c f
    have h2 := f1.trans f
    exact ⟨h2.os, h2.tape, h2.output, by simp only [setRow_size]; exact h2.size, fun x hx hn => by rw [setRow_other _ _ _ _ (by omega)]; exact h2.blk x hx hn, fun _ h => h.elim⟩
  refine W.seqI (ι := List Value) (fun _ => [(5, .int .i64 (d : Int)), (6, ptr b)]) (fun cs w' => Blk w' b cs 36 ∧ Rep w' (fun _ => True) (deepT k d) (.st .sheet) cs ∧ Fr (fun _ => False) w (fun _ => False) w') ?_ ?_
  · refine W.seq (W.region (WL.move rfl rfl (WL.next ?_)))
    refine W.cond rfl (fun hk => ?_) (fun hk => ?_)
    · refine W.seq (W.region (WL.assign rfl rfl (WL.next ?_)))
      refine W.seq (W.seq (W.region (WL.move rfl rfl (WL.move rfl rfl (WL.next ?_)))))
      refine W.block (W.loop (ι := Nat × Option Addr × Nat × Nat × World) (fun i => [(5, .int .i64 (d : Int)), (6, ptr b), (7, .slice i.2.1 i.2.2.1 i.2.2.2.1), (17, .int .i64 (d : Int)), (18, .int .i64 (i.1 : Int))])
        (fun i w' => w' = i.2.2.2.2 ∧ i.1 ≤ d ∧ Fr (fun _ => False) w1 (fun _ => False) w' ∧ Rep w' (fun x => x ≠ b) (.list (nestI i.1)) (.list (.st .instr)) [.slice i.2.1 i.2.2.1 i.2.2.2.1]) (fun i => d - i.1)
        (0, none, 0, 0, w1) ⟨rfl, rfl, rfl, rfl, rfl, trivial⟩ ⟨rfl, Nat.zero_le _, Fr.refl _ _, by simp only [nestI, Rep, true_and, true_or]⟩ ?_)
      rintro ⟨j, g, l, c, _⟩ w2 ⟨rfl, hj, f2, r2⟩
      simp only at hj f2 r2 ⊢
      refine W.seq (W.region (WL.binInt rfl rfl (run_lss (c := decide (j < d)) (decide_eq_decide.2 (by omega))) rfl (WL.next (W.seq (W.cond rfl (fun ht => W.skip fun a ha => then_normal ?_) (fun hf => W.exit fun a ha => then_exit (then_exit (exit_here (then_normal ?_)))))))))
      · have hlt : j < d := of_decide_eq_true ht
        refine W.run ha (W.seq (W.block (W.region (WL.move rfl rfl (WL.build rfl run_instr rfl (WL.buildSlice rfl slice_instr rfl (WL.assign rfl rfl (WL.nil fun a ha => block_normal (then_normal ?_)))))))))
        refine W.run ha (W.region (WL.binInt rfl rfl rfl rfl (WL.move rfl rfl (WL.nil fun a ha => then_normal ?_))))
        have a3 : Blk (w2.alloc (.cells (zinstr (.slice g l c)).toArray 72)) w2.heap.size (zinstr (.slice g l c)) 72 := Blk.alloc_new
        have f3 : Fr (fun _ => False) w2 (fun _ => False) (w2.alloc (.cells (zinstr (.slice g l c)).toArray 72)) := Fr.alloc _ _ _
        have hbs : b < w2.heap.size := Nat.lt_of_lt_of_le a1.lt f2.size
        refine ⟨(j + 1, some ⟨w2.heap.size, 0, none⟩, 1, 1, _), ha.weak ⟨rfl, rfl, rfl, rfl, ?_, trivial⟩, ⟨rfl, hlt, f2.trans f3, ?_⟩, ?_⟩
        · exact congrArg some (inc_i64 (by omega))
        · exact rep_one (by omega) a3 rfl (rep_instr (r2.fresh f3))
        · show d - (j + 1) < d - j; omega
      · have hjd : j = d := by have := of_decide_eq_false hf; omega
        subst hjd
        have b2 : Blk w2 b zsheet 36 := (f2.blk b a1.lt (fun h => h)).trans a1
        have hbs : b < w2.heap.size := b2.lt
        refine W.run ha (W.region (WL.move rfl rfl (WL.build rfl run_template rfl (WL.buildSlice rfl slice_template rfl (WL.fieldAddr rfl (field36_2 _ _ _) rfl ?_)))))
        have a3 : Blk (w2.alloc (.cells (ztemplate (.slice g l c)).toArray 74)) w2.heap.size (ztemplate (.slice g l c)) 74 := Blk.alloc_new
        have f3 : Fr (fun _ => False) w2 (fun _ => False) (w2.alloc (.cells (ztemplate (.slice g l c)).toArray 74)) := Fr.alloc _ _ _
        have b3 := (f3.blk b hbs (fun h => h)).trans b2
        have r3 : Rep _ (fun x => x ≠ b) (.list [templateT (nestI j)]) (.list (.st .template)) _ := rep_one (e := .st .template) (by omega) a3 rfl (rep_template (r2.fresh f3))
        refine WL.store rfl rfl (set_sheet ⟨Tryz.isAgg27, Tryz.sizeOf27⟩ b3 (by omega)) (WL.nil fun a ha => then_normal ⟨zsheetTm (.slice (some ⟨w2.heap.size, 0, none⟩) 1 1), ha.weak ⟨rfl, rfl, trivial⟩, Blk.setRow (cs := zsheet) (t := 36) b3 _, ?_, fs _ (f2.trans f3)⟩)
        rw [show deepT k j = sheetTm (nestI j) by rw [hk]; rfl]
        refine rep_tm (Rep.agree (S := fun x => x ≠ b) (fun x hx hl => ⟨trivial, by simp only [setRow_size]; exact hl, setRow_other _ _ _ _ hx⟩) _ _ _ r3)
    · refine W.seq (W.region (WL.build rfl run_expr0 rfl (WL.alloc (zero66 _) rfl ?_)))
      have a2 : Blk (w1.alloc (.cells (zexpr sl0).toArray 66)) w1.heap.size (zexpr sl0) 66 := Blk.alloc_new
      have f2 : Fr (fun _ => False) w1 (fun _ => False) (w1.alloc (.cells (zexpr sl0).toArray 66)) := Fr.alloc _ _ _
      have hb1 := a1.lt
      show WL _ _ _ _ _ _ _ (w1.alloc (.cells (zexpr sl0).toArray 66))
      generalize w1.alloc (.cells (zexpr sl0).toArray 66) = w2 at a2 f2 ⊢
      generalize hc1 : w1.heap.size = c at a2 ⊢
      have fc : ∀ {w3 : World} (x : Array Value), Fr (fun _ => False) w1 (fun _ => False) w3 → Fr (fun _ => False) w1 (fun _ => False) (w3.setRow c x) := by
        intro w3 x f
        exact ⟨f.os, f.tape, f.output, by simp only [setRow_size]; exact f.size, fun y hy hn => by rw [setRow_other _ _ _ _ (by omega)]; exact f.blk y hy hn, fun _ h => h.elim⟩
      refine WL.store rfl rfl (store66 a2 rfl rfl zexpr_one) (WL.next ?_)
      refine W.seq (W.seq (W.region (WL.move rfl rfl (WL.move rfl rfl (WL.next ?_)))))
      refine W.block (W.loop (ι := Nat × Value × World) (fun i => [(5, .int .i64 (d : Int)), (6, ptr b), (8, ptr c), (29, .int .i64 (d : Int)), (30, .int .i64 (i.1 : Int))])
        (fun i w' => w' = i.2.2 ∧ i.1 ≤ d ∧ Fr (fun _ => False) w1 (fun _ => False) w' ∧ (∃ g l n, i.2.1 = .slice g l n) ∧ Blk w' c (zexpr i.2.1) 66 ∧ Rep w' (fun x => x ≠ b ∧ x ≠ c) (nestE i.1) (.st .expr) (zexpr i.2.1)) (fun i => d - i.1)
        (0, sl0, w2.setRow c (zexpr sl0).toArray) ⟨rfl, rfl, rfl, rfl, rfl, trivial⟩ ⟨rfl, Nat.zero_le _, fc _ f2, ⟨_, _, _, rfl⟩, a2.setRow _, ?_⟩ ?_)
      · exact rep_expr (by simp only [sl0, Rep, true_and, true_or])
      rintro ⟨j, v, _⟩ w3 ⟨rfl, hj, f3, ⟨g, l, q, hv⟩, a3, r3⟩
      simp only at hv hj f3 a3 r3 ⊢
      subst hv
      have hb3 : b < w3.heap.size := Nat.lt_of_lt_of_le hb1 f3.size
      have hcb : c ≠ b := by omega
      refine W.seq (W.region (WL.binInt rfl rfl (run_lss (c := decide (j < d)) (decide_eq_decide.2 (by omega))) rfl (WL.next (W.seq (W.cond rfl (fun ht => W.skip fun a ha => then_normal ?_) (fun hf => W.exit fun a ha => then_exit (then_exit (exit_here (then_normal ?_)))))))))
      · have hlt : j < d := of_decide_eq_true ht
        refine W.run ha (W.seq (W.block (W.region (WL.load rfl (loadN ty66 rfl a3.all) rfl (WL.buildSlice rfl slice_expr rfl (WL.build rfl run_expr rfl ?_))))))
        have a4 : Blk (w3.alloc (.cells (zexpr (.slice g l q)).toArray 66)) w3.heap.size (zexpr (.slice g l q)) 66 := Blk.alloc_new
        have f4 : Fr (fun _ => False) w3 (fun _ => False) (w3.alloc (.cells (zexpr (.slice g l q)).toArray 66)) := Fr.alloc _ _ _
        have c4 := (f4.blk c a3.lt (fun h => h)).trans a3
        have hc3 := a3.lt
        have r4 : Rep (w3.alloc (.cells (zexpr (.slice g l q)).toArray 66)) (fun x => x ≠ b ∧ x ≠ c) (.list [nestE j]) (.list (.st .expr)) _ := rep_one (e := .st .expr) ⟨by omega, by omega⟩ a4 rfl (r3.fresh f4)
        refine WL.store rfl rfl (store66 c4 rfl rfl zexpr_one) (WL.nil fun a ha => block_normal (then_normal ?_))
        refine W.run ha (W.region (WL.binInt rfl rfl rfl rfl (WL.move rfl rfl (WL.nil fun a ha => then_normal ?_))))
        refine ⟨(j + 1, .slice (some ⟨w3.heap.size, 0, none⟩) 1 1, _), ha.weak ⟨rfl, rfl, rfl, rfl, ?_, trivial⟩, ⟨rfl, hlt, fc _ (f3.trans f4), ⟨_, _, _, rfl⟩, Blk.setRow (cs := zexpr (.slice g l q)) (t := 66) c4 _, ?_⟩, ?_⟩
        · exact congrArg some (inc_i64 (by omega))
        · exact rep_expr (Rep.agree (S := fun x => x ≠ b ∧ x ≠ c) (fun x hx hl => ⟨hx, by simp only [setRow_size]; exact hl, setRow_other _ _ _ _ hx.2⟩) _ _ _ r4)
        · show d - (j + 1) < d - j; omega
      · have hjd : j = d := by have := of_decide_eq_false hf; omega
        subst hjd
        have b3 : Blk w3 b zsheet 36 := (f3.blk b hb1 (fun h => h)).trans a1
        refine W.run ha (W.region (WL.load rfl (loadN ty66 rfl a3.all) rfl (WL.build rfl run_key rfl (WL.buildSlice rfl slice_key rfl (WL.fieldAddr rfl (field36_5 _ _ _) rfl ?_)))))
        have a4 : Blk (w3.alloc (.cells (zkey (zexpr (.slice g l q))).toArray 76)) w3.heap.size (zkey (zexpr (.slice g l q))) 76 := Blk.alloc_new
        have f4 : Fr (fun _ => False) w3 (fun _ => False) (w3.alloc (.cells (zkey (zexpr (.slice g l q))).toArray 76)) := Fr.alloc _ _ _
        have b4 := (f4.blk b hb3 (fun h => h)).trans b3
        have r4 : Rep (w3.alloc (.cells (zkey (zexpr (.slice g l q))).toArray 76)) (fun x => x ≠ b) (nestE j) (.st .expr) (zexpr (.slice g l q)) := Rep.agree (S := fun x => x ≠ b ∧ x ≠ c) (fun x hx hl => ⟨hx.1, hl, rfl⟩) _ _ _ (r3.fresh f4)
        have r5 : Rep _ (fun x => x ≠ b) (.list [keyT (nestE j)]) (.list (.st .key)) _ := rep_one (e := .st .key) (by omega) a4 rfl (rep_key rfl r4)
        refine WL.store rfl rfl (set_sheet ⟨Tryz.isAgg30, Tryz.sizeOf30⟩ b4 (by omega)) (WL.nil fun a ha => then_normal ⟨zsheetKy (.slice (some ⟨w3.heap.size, 0, none⟩) 1 1), ha.weak ⟨rfl, rfl, trivial⟩, Blk.setRow (cs := zsheet) (t := 36) b4 _, ?_, fs _ (f3.trans f4)⟩)
        rw [show deepT k j = sheetKy (nestE j) by rw [hk]; rfl]
        refine rep_ky (Rep.agree (S := fun x => x ≠ b) (fun x hx hl => ⟨trivial, by simp only [setRow_size]; exact hl, setRow_other _ _ _ _ hx⟩) _ _ _ r5)
  · intro cs w2 ⟨b2, r2, f2⟩
    have hwt := deep_wt (k := k) hd
    have hlen : cs.length = 10 := (Rep.one _ _ _ r2).1
    refine W.seq (W.region (WL.load rfl (loadN ⟨Tryz.isAgg36, Tryz.sizeOf36⟩ hlen b2.all) rfl (WL.call Tryz.call23 rfl rfl (c23 r2 (by omega)) ?_ (fun _ _ h => h.elim))))
    rintro v w3 ⟨vb, f3, h3⟩
    by_cases hdeep : 998 < d
    · rw [deep_none hdeep] at h3
      obtain ⟨rfl, rfl⟩ := h3
      refine WL.move rfl rfl (WL.extract rfl rfl rfl (WL.extract rfl rfl rfl (WL.assign rfl rfl (WL.assign rfl rfl (WL.next ?_)))))
      refine W.seq (W.seq (W.region (WL.move rfl rfl (WL.binInt rfl rfl (run_gtr (c := true) (decide_eq_true (by omega)).symm) rfl (WL.next (W.cond_true rfl ?_))))))
      refine W.seq (W.region (WL.move rfl rfl (WL.binInt rfl rfl (run_eql (c := true) rfl) rfl (WL.move rfl rfl ?_))))
      refine WL.guarded (j := 2) rfl rfl rfl (WL.move rfl rfl (WL.guarded (j := 2) rfl rfl rfl (WL.len rfl (len_slice Tryz.underlying22) rfl (WL.guarded (j := 2) rfl rfl rfl (WL.binInt rfl rfl (run_eql (c := true) rfl) rfl (WL.pick rfl rfl rfl (WL.move rfl rfl ?_)))))))
      refine WL.guarded (j := 7) rfl rfl rfl (WL.call Tryz.call13 rfl rfl c13 ?_ (fun _ _ h => h.elim))
      rintro _ w4 ⟨rfl, f4⟩
      exact WL.pick rfl rfl rfl (WL.assign rfl rfl (WL.next (W.ret fun a ha => then_ret (post_ret1 rfl ha rfl ⟨rfl, (f2.trans f3.none).trans f4⟩))))
    · obtain ⟨bs, hbs⟩ := deep_some (k := k) (d := d) (by omega)
      rw [hbs] at h3
      obtain ⟨rfl, h3⟩ := h3
      have hB := Bts.of_row h3
      refine WL.move rfl rfl (WL.extract rfl rfl rfl (WL.extract rfl rfl rfl (WL.assign rfl rfl (WL.assign rfl rfl (WL.next ?_)))))
      refine W.seq (W.seq (W.region (WL.move rfl rfl (WL.binInt rfl rfl (run_gtr (c := false) (decide_eq_false (by omega)).symm) rfl (WL.next (W.cond_false rfl (W.skip fun a ha => then_normal ?_)))))))
      refine W.run ha (W.seq (W.region (WL.move rfl rfl (WL.call Tryz.call15 rfl rfl (c15 hB) ?_ (fun _ _ h => h.elim)))))
      rintro _ w4 ⟨ds, e, rfl, f4, hdec⟩
      have hkd := Rep.kd _ _ _ r2
      have hok := dec_of_encode hkd hbs
      rcases hdec with ⟨t, ht, rfl, r4⟩ | ⟨hno, _⟩
      · have := dec_uniq ht hok
        subst this
        have hone := Rep.one _ _ _ r4
        obtain ⟨w5, hst5, b5, f5⟩ := put_sheet (w := w4) (cs := ds) hone.1 hone.2
        refine WL.move rfl rfl (WL.extract rfl rfl rfl (WL.extract rfl rfl rfl (WL.alloc (zero36 _) rfl (WL.store rfl rfl hst5 (WL.assign rfl rfl (WL.next ?_))))))
        have f35 := (f3.none.trans f4).trans f5
        have b2' : Blk w5 b cs 36 := (f35.blk b b2.lt (fun h => h)).trans b2
        refine W.seq (W.region (WL.move rfl rfl (WL.binInt rfl rfl (run_eql (c := true) rfl) rfl (WL.move rfl rfl ?_))))
        refine WL.guarded (j := 2) rfl rfl rfl (WL.move rfl rfl (WL.guarded (j := 2) rfl rfl rfl (WL.binInt rfl rfl (run_eql (c := true) rfl) rfl (WL.pick rfl rfl rfl (WL.move rfl rfl ?_)))))
        refine WL.guarded (j := 6) rfl rfl rfl (WL.load rfl (loadN ⟨Tryz.isAgg36, Tryz.sizeOf36⟩ hlen b2'.all) rfl (WL.guarded (j := 6) rfl rfl rfl (WL.load rfl (loadN ⟨Tryz.isAgg36, Tryz.sizeOf36⟩ hone.1 b5.all) rfl ?_)))
        refine WL.guarded (j := 6) rfl rfl rfl (WL.call Tryz.call21 rfl rfl (c21 (S := fun _ => True) (r2.fresh f35) (Rep.agree (fun x hx hl => ⟨trivial, hl, rfl⟩) _ _ _ (r4.fresh f5)) (by omega) (by omega)) ?_ (fun _ _ h => h.elim))
        rintro _ w6 ⟨rfl, f6⟩
        rw [deep_same (by omega)]
        refine WL.pick rfl rfl rfl (WL.move rfl rfl (WL.guarded (j := 11) rfl rfl rfl (WL.call Tryz.call13 rfl rfl c13 ?_ (fun _ _ h => h.elim))))
        rintro _ w7 ⟨rfl, f7⟩
        exact WL.pick rfl rfl rfl (WL.assign rfl rfl (WL.next (W.ret fun a ha => post_ret1 rfl ha rfl ⟨rfl, ((f2.trans f35).trans f6).trans f7⟩)))
      · exact absurd hok (hno _)
end Go.Sx
