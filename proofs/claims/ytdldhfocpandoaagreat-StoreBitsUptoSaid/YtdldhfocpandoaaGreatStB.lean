import Derived.Test.YtdldhfocpandoaaGreatStA
namespace Go.Sx
open Go.Proofs
def WList (w0 : World) (S : Nat → Prop) (p most long : Nat) (f fe : FuncId) (e : Ty) (l : List T) : Prop :=
 ∀ cs, Rep w0 S (.list l) (.list e) cs → ∀ s O w, WSt w0 S p most long s O w → s.use + 11 * (T.wts l + 1) ≤ 2 ^ 40 →
  Calls Tryz.prog f [ptr p, valOf (.list e) cs, .func (.func fe) #[ptr p] #[]].toArray w
   (End (WRet w0 S p most long O w (enc most long (.list l) s)) (WPan w0 S p most long O w (enc most long (.list l) s) s.nest))
theorem enc_list {most long : Nat} {l : List T} {s : WS} : enc most long (.list l) s = encL most long l (s.num l.length) := by simp only [enc]
theorem At.input {w0 w : World} {S : Nat → Prop} {p most long : Nat} {s : WS} {O : Nat → Prop} (h : WSt w0 S p most long s O w) {b o : Nat} {ds : List Value} (hS : S b) (hb : b < w0.heap.size) (k : At w0 b o ds) : At w b o ds :=
 k.agree (h.inp b hS hb).2
theorem list_val {w0 : World} {S : Nat → Prop} {e : Ty} {l : List T} {cs : List Value} (h : Rep w0 S (.list l) (.list e) cs) :
 ∃ g cap, valOf (.list e) cs = .slice g l.length cap ∧ l.length ≤ maxLen ∧ ((True ∧ l = []) ∨ ∃ b o, g = some ⟨b, o, none⟩ ∧ S b ∧ b < w0.heap.size ∧ RepL w0 S e l b o) := by
 simp only [Rep] at h
 rcases h with ⟨⟨g, cap, rfl⟩, rfl⟩ | ⟨b, o, cap, rfl, h1, h2, h3, h4, h5⟩
 · exact ⟨g, cap, rfl, Nat.zero_le _, .inl ⟨trivial, rfl⟩⟩
 · exact ⟨_, cap, rfl, by omega, .inr ⟨b, o, rfl, h1, h2, h5⟩⟩
theorem c152 {w0 : World} {S : Nat → Prop} {p most long : Nat} {l : List T} (h : ∀ t ∈ l, WEnc w0 S p most long 153 (.st .use) t) : WList w0 S p most long 152 153 (.st .use) l := by
 intro cs hr s O w hw hu
 obtain ⟨g, cap, hv, hml, hg⟩ := list_val hr
 rw [hv, enc_list]
 have hll := T.wts_len l
 obtain ⟨z, hz0, hzs⟩ : ∃ z, (∀ w, (zeroValue 48).run Tryz.prog w = .ok z w) ∧ z.cells.size = 4 := ⟨_, Tryz.zeroValue48, rfl⟩
 have hul : l.length < 18446744073709551616 := by omega
 obtain ⟨vb, hvb, hrb, hput⟩ := hw.put
 refine cW 29 Tryz.func152 rfl rfl rfl ?_
 refine W.sq (W.rg (WL.mv rfl rfl (WL.mv rfl rfl (WL.nc rfl rfl (WL.fa rfl (field185_0 _ _ _) rfl (WL.ld rfl (load1 ty22 hvb) rfl (WL.mv rfl rfl ?_)))))))
 refine WL.len rfl (lS Tryz.underlying26) rfl (WL.convert rfl (conv_int Tryz.runUnderlying3 Tryz.runUnderlying164) rfl ?_)
 rw [wrap_u64 (by omega) (by omega)]
 refine WL.cl Tryz.call97 rfl rfl (c97 hrb hul (by have := num_len10 hul; simp only [WS.use] at hu; omega)) ?_ nop
 rintro v' w1 ⟨r1, f1⟩
 obtain ⟨w2, O2, hst, f2, hw2⟩ := hput v' w1 _ f1 r1
 refine WL.nc rfl rfl (WL.fa rfl (field185_0 _ _ _) rfl (WL.so rfl rfl hst (WL.kp [(0, ptr p), (1, .slice g l.length cap), (2, .func (.func 153) #[ptr p] #[])] ⟨rfl, rfl, rfl, trivial⟩ ?_)))
 refine W.sq (W.rg (WL.mv rfl rfl (WL.len rfl (lS Tryz.underlying26) rfl (WL.mv rfl rfl (WL.nx ?_)))))
 have hsu := WS.num_use (s := s) hul
 refine W.bk (W.loop (ι := Nat × WS × (Nat → Prop)) (fun i => [(0, ptr p), (2, .func (.func 153) #[ptr p] #[]), (19, .slice g l.length cap), (20, .int .i64 l.length), (21, .int .i64 i.1)])
  (fun i w' => i.1 ≤ l.length ∧ WSt w0 S p most long i.2.1 i.2.2 w' ∧ Fr O w i.2.2 w' ∧ encL most long (l.take i.1) (s.num l.length) = some i.2.1) (fun i => l.length - i.1)
  (0, s.num l.length, O2) ⟨rfl, rfl, rfl, rfl, rfl, trivial⟩ ⟨Nat.zero_le _, hw2, f2, rfl⟩ ?_)
 rintro ⟨i, si, Oi⟩ wi ⟨hi, hwi, fi, hei⟩
 simp only at hi hwi fi hei ⊢
 refine W.sq (W.rg (WL.bi rfl rfl rfl rfl (WL.nx (W.sq ?_))))
 refine W.cond rfl (fun ht => W.skip fun a ha => tN ?_) (fun hf => W.exit fun a ha => tE (tE (eH ?_)))
 · have hlt : i < l.length := by simp at ht; omega
   obtain ⟨t, hn⟩ : ∃ t, l[i]? = some t := ⟨_, List.getElem?_eq_getElem hlt⟩
   rcases hg with ⟨_, rfl⟩ | ⟨b, o, rfl, hS, hb, hrl⟩
   · simp at hlt
   obtain ⟨ds, hat, hlen, hrep⟩ := RepL.get hrl hn
   have hlen' : ds.length = 4 := hlen
   have hone := Rep.one _ _ _ hrep
   have hat2 := At.input hwi hS hb hat
   have hwt := T.wts_take hn
   have hui := (encL_use _ _ _ hei (by omega)).1
   refine (W.sq (W.bk (W.sq (W.rg (WL.ix rfl rfl (indexSlice Tryz.underlying26 (iy48 : IsTy Tryz.prog 48 true 4) (by omega) (by omega)) rfl ?_))))) a ha
   rw [Int.toNat_natCast]
   refine WL.ld rfl (loadN iy48 hlen hat2) rfl (WL.alloc (hz0 _) rfl ?_)
   obtain ⟨w3, hst3, hb3, f3, hsz3⟩ := new_var (P := Tryz.prog) (w := wi) (v := .agg ds.toArray) (iy48 : IsTy Tryz.prog 48 true 4) hzs hlen rfl hone.2
   have hw3 := hwi.other f3 (fun _ h => h.elim)
   refine WL.so rfl rfl hst3 (WL.nx ?_)
   have hat3 := hb3.at_ 0 4
   rw [List.drop_zero, List.take_of_length_le (Nat.le_of_eq hlen')] at hat3
   refine W.rg (WL.mv rfl rfl (WL.ld rfl (loadN iy48 hlen hat3) rfl ?_))
   have hcall := h t (List.mem_of_getElem? hn) ds hrep si Oi w3 hw3 (by omega)
   refine WL.callv rfl Tryz.call153 rfl rfl hcall ?_ ?_
   · rintro v w4 ⟨rfl, s4, O4, hs4, f4, hw4⟩
     refine WL.nil fun a ha => bN (tN ((W.rg (WL.bi rfl rfl rfl rfl (WL.mv rfl rfl (WL.nil fun a ha => tN ?_)))) a ha))
     have f34 : Fr Oi wi O4 w4 := (f3.drop (fun _ h => h.elim)).trans f4
     refine ⟨(i + 1, s4, O4), ha.weak ⟨rfl, rfl, rfl, rfl, ?_, trivial⟩, ⟨hlt, hw4, fi.trans f34, ?_⟩, by simp only; omega⟩
     · show some (Value.int .i64 (IntKind.i64.wrap ((i : Int) + 1))) = some (Value.int .i64 ((i + 1 : Nat) : Int))
       rw [wrap_i64 (by unfold isInt; omega)]; rfl
     · simp only; rw [take_snoc hn, encL_append, hei]; simp only [Option.bind_some, encL_one]; exact hs4
   · rintro ch w4 ⟨rfl, hs4, s4, O4, f4, hw4, hn1, hn2⟩ a ha
     have f34 : Fr Oi wi O4 w4 := (f3.drop (fun _ h => h.elim)).trans f4
     refine bP (tP (tP (bP (pP ha ⟨rfl, encL_none hn hei hs4, s4, O4, fi.trans f34, hw4, ?_, hn2⟩))))
     have := (encL_use _ _ _ hei (by omega)).2
     rw [this] at hn1; exact hn1
 · have hge : i = l.length := by simp at hf; omega
   subst hge
   refine post_end0 rfl ha ⟨rfl, si, Oi, ?_, fi, hwi⟩
   rw [List.take_length] at hei; exact hei
theorem c154 {w0 : World} {S : Nat → Prop} {p most long : Nat} {l : List T} (h : ∀ t ∈ l, WEnc w0 S p most long 155 (.st .template) t) : WList w0 S p most long 154 155 (.st .template) l := by
 intro cs hr s O w hw hu
 obtain ⟨g, cap, hv, hml, hg⟩ := list_val hr
 rw [hv, enc_list]
 have hll := T.wts_len l
 obtain ⟨z, hz0, hzs⟩ : ∃ z, (∀ w, (zeroValue 74).run Tryz.prog w = .ok z w) ∧ z.cells.size = 12 := ⟨_, Tryz.zeroValue74, rfl⟩
 have hul : l.length < 18446744073709551616 := by omega
 obtain ⟨vb, hvb, hrb, hput⟩ := hw.put
 refine cW 29 Tryz.func154 rfl rfl rfl ?_
 refine W.sq (W.rg (WL.mv rfl rfl (WL.mv rfl rfl (WL.nc rfl rfl (WL.fa rfl (field185_0 _ _ _) rfl (WL.ld rfl (load1 ty22 hvb) rfl (WL.mv rfl rfl ?_)))))))
 refine WL.len rfl (lS Tryz.underlying27) rfl (WL.convert rfl (conv_int Tryz.runUnderlying3 Tryz.runUnderlying164) rfl ?_)
 rw [wrap_u64 (by omega) (by omega)]
 refine WL.cl Tryz.call97 rfl rfl (c97 hrb hul (by have := num_len10 hul; simp only [WS.use] at hu; omega)) ?_ nop
 rintro v' w1 ⟨r1, f1⟩
 obtain ⟨w2, O2, hst, f2, hw2⟩ := hput v' w1 _ f1 r1
 refine WL.nc rfl rfl (WL.fa rfl (field185_0 _ _ _) rfl (WL.so rfl rfl hst (WL.kp [(0, ptr p), (1, .slice g l.length cap), (2, .func (.func 155) #[ptr p] #[])] ⟨rfl, rfl, rfl, trivial⟩ ?_)))
 refine W.sq (W.rg (WL.mv rfl rfl (WL.len rfl (lS Tryz.underlying27) rfl (WL.mv rfl rfl (WL.nx ?_)))))
 have hsu := WS.num_use (s := s) hul
 refine W.bk (W.loop (ι := Nat × WS × (Nat → Prop)) (fun i => [(0, ptr p), (2, .func (.func 155) #[ptr p] #[]), (19, .slice g l.length cap), (20, .int .i64 l.length), (21, .int .i64 i.1)])
  (fun i w' => i.1 ≤ l.length ∧ WSt w0 S p most long i.2.1 i.2.2 w' ∧ Fr O w i.2.2 w' ∧ encL most long (l.take i.1) (s.num l.length) = some i.2.1) (fun i => l.length - i.1)
  (0, s.num l.length, O2) ⟨rfl, rfl, rfl, rfl, rfl, trivial⟩ ⟨Nat.zero_le _, hw2, f2, rfl⟩ ?_)
 rintro ⟨i, si, Oi⟩ wi ⟨hi, hwi, fi, hei⟩
 simp only at hi hwi fi hei ⊢
 refine W.sq (W.rg (WL.bi rfl rfl rfl rfl (WL.nx (W.sq ?_))))
 refine W.cond rfl (fun ht => W.skip fun a ha => tN ?_) (fun hf => W.exit fun a ha => tE (tE (eH ?_)))
 · have hlt : i < l.length := by simp at ht; omega
   obtain ⟨t, hn⟩ : ∃ t, l[i]? = some t := ⟨_, List.getElem?_eq_getElem hlt⟩
   rcases hg with ⟨_, rfl⟩ | ⟨b, o, rfl, hS, hb, hrl⟩
   · simp at hlt
   obtain ⟨ds, hat, hlen, hrep⟩ := RepL.get hrl hn
   have hlen' : ds.length = 12 := hlen
   have hone := Rep.one _ _ _ hrep
   have hat2 := At.input hwi hS hb hat
   have hwt := T.wts_take hn
   have hui := (encL_use _ _ _ hei (by omega)).1
   refine (W.sq (W.bk (W.sq (W.rg (WL.ix rfl rfl (indexSlice Tryz.underlying27 (iy74 : IsTy Tryz.prog 74 true 12) (by omega) (by omega)) rfl ?_))))) a ha
   rw [Int.toNat_natCast]
   refine WL.ld rfl (loadN iy74 hlen hat2) rfl (WL.alloc (hz0 _) rfl ?_)
   obtain ⟨w3, hst3, hb3, f3, hsz3⟩ := new_var (P := Tryz.prog) (w := wi) (v := .agg ds.toArray) (iy74 : IsTy Tryz.prog 74 true 12) hzs hlen rfl hone.2
   have hw3 := hwi.other f3 (fun _ h => h.elim)
   refine WL.so rfl rfl hst3 (WL.nx ?_)
   have hat3 := hb3.at_ 0 12
   rw [List.drop_zero, List.take_of_length_le (Nat.le_of_eq hlen')] at hat3
   refine W.rg (WL.mv rfl rfl (WL.ld rfl (loadN iy74 hlen hat3) rfl ?_))
   have hcall := h t (List.mem_of_getElem? hn) ds hrep si Oi w3 hw3 (by omega)
   refine WL.callv rfl Tryz.call155 rfl rfl hcall ?_ ?_
   · rintro v w4 ⟨rfl, s4, O4, hs4, f4, hw4⟩
     refine WL.nil fun a ha => bN (tN ((W.rg (WL.bi rfl rfl rfl rfl (WL.mv rfl rfl (WL.nil fun a ha => tN ?_)))) a ha))
     have f34 : Fr Oi wi O4 w4 := (f3.drop (fun _ h => h.elim)).trans f4
     refine ⟨(i + 1, s4, O4), ha.weak ⟨rfl, rfl, rfl, rfl, ?_, trivial⟩, ⟨hlt, hw4, fi.trans f34, ?_⟩, by simp only; omega⟩
     · show some (Value.int .i64 (IntKind.i64.wrap ((i : Int) + 1))) = some (Value.int .i64 ((i + 1 : Nat) : Int))
       rw [wrap_i64 (by unfold isInt; omega)]; rfl
     · simp only; rw [take_snoc hn, encL_append, hei]; simp only [Option.bind_some, encL_one]; exact hs4
   · rintro ch w4 ⟨rfl, hs4, s4, O4, f4, hw4, hn1, hn2⟩ a ha
     have f34 : Fr Oi wi O4 w4 := (f3.drop (fun _ h => h.elim)).trans f4
     refine bP (tP (tP (bP (pP ha ⟨rfl, encL_none hn hei hs4, s4, O4, fi.trans f34, hw4, ?_, hn2⟩))))
     have := (encL_use _ _ _ hei (by omega)).2
     rw [this] at hn1; exact hn1
 · have hge : i = l.length := by simp at hf; omega
   subst hge
   refine post_end0 rfl ha ⟨rfl, si, Oi, ?_, fi, hwi⟩
   rw [List.take_length] at hei; exact hei
theorem c156 {w0 : World} {S : Nat → Prop} {p most long : Nat} {l : List T} (h : ∀ t ∈ l, WEnc w0 S p most long 157 (.st .dfn) t) : WList w0 S p most long 156 157 (.st .dfn) l := by
 intro cs hr s O w hw hu
 obtain ⟨g, cap, hv, hml, hg⟩ := list_val hr
 rw [hv, enc_list]
 have hll := T.wts_len l
 obtain ⟨z, hz0, hzs⟩ : ∃ z, (∀ w, (zeroValue 140).run Tryz.prog w = .ok z w) ∧ z.cells.size = 27 := ⟨_, Tryz.zeroValue140, rfl⟩
 have hul : l.length < 18446744073709551616 := by omega
 obtain ⟨vb, hvb, hrb, hput⟩ := hw.put
 refine cW 29 Tryz.func156 rfl rfl rfl ?_
 refine W.sq (W.rg (WL.mv rfl rfl (WL.mv rfl rfl (WL.nc rfl rfl (WL.fa rfl (field185_0 _ _ _) rfl (WL.ld rfl (load1 ty22 hvb) rfl (WL.mv rfl rfl ?_)))))))
 refine WL.len rfl (lS Tryz.underlying28) rfl (WL.convert rfl (conv_int Tryz.runUnderlying3 Tryz.runUnderlying164) rfl ?_)
 rw [wrap_u64 (by omega) (by omega)]
 refine WL.cl Tryz.call97 rfl rfl (c97 hrb hul (by have := num_len10 hul; simp only [WS.use] at hu; omega)) ?_ nop
 rintro v' w1 ⟨r1, f1⟩
 obtain ⟨w2, O2, hst, f2, hw2⟩ := hput v' w1 _ f1 r1
 refine WL.nc rfl rfl (WL.fa rfl (field185_0 _ _ _) rfl (WL.so rfl rfl hst (WL.kp [(0, ptr p), (1, .slice g l.length cap), (2, .func (.func 157) #[ptr p] #[])] ⟨rfl, rfl, rfl, trivial⟩ ?_)))
 refine W.sq (W.rg (WL.mv rfl rfl (WL.len rfl (lS Tryz.underlying28) rfl (WL.mv rfl rfl (WL.nx ?_)))))
 have hsu := WS.num_use (s := s) hul
 refine W.bk (W.loop (ι := Nat × WS × (Nat → Prop)) (fun i => [(0, ptr p), (2, .func (.func 157) #[ptr p] #[]), (19, .slice g l.length cap), (20, .int .i64 l.length), (21, .int .i64 i.1)])
  (fun i w' => i.1 ≤ l.length ∧ WSt w0 S p most long i.2.1 i.2.2 w' ∧ Fr O w i.2.2 w' ∧ encL most long (l.take i.1) (s.num l.length) = some i.2.1) (fun i => l.length - i.1)
  (0, s.num l.length, O2) ⟨rfl, rfl, rfl, rfl, rfl, trivial⟩ ⟨Nat.zero_le _, hw2, f2, rfl⟩ ?_)
 rintro ⟨i, si, Oi⟩ wi ⟨hi, hwi, fi, hei⟩
 simp only at hi hwi fi hei ⊢
 refine W.sq (W.rg (WL.bi rfl rfl rfl rfl (WL.nx (W.sq ?_))))
 refine W.cond rfl (fun ht => W.skip fun a ha => tN ?_) (fun hf => W.exit fun a ha => tE (tE (eH ?_)))
 · have hlt : i < l.length := by simp at ht; omega
   obtain ⟨t, hn⟩ : ∃ t, l[i]? = some t := ⟨_, List.getElem?_eq_getElem hlt⟩
   rcases hg with ⟨_, rfl⟩ | ⟨b, o, rfl, hS, hb, hrl⟩
   · simp at hlt
   obtain ⟨ds, hat, hlen, hrep⟩ := RepL.get hrl hn
   have hlen' : ds.length = 27 := hlen
   have hone := Rep.one _ _ _ hrep
   have hat2 := At.input hwi hS hb hat
   have hwt := T.wts_take hn
   have hui := (encL_use _ _ _ hei (by omega)).1
   refine (W.sq (W.bk (W.sq (W.rg (WL.ix rfl rfl (indexSlice Tryz.underlying28 (iy140 : IsTy Tryz.prog 140 true 27) (by omega) (by omega)) rfl ?_))))) a ha
   rw [Int.toNat_natCast]
   refine WL.ld rfl (loadN iy140 hlen hat2) rfl (WL.alloc (hz0 _) rfl ?_)
   obtain ⟨w3, hst3, hb3, f3, hsz3⟩ := new_var (P := Tryz.prog) (w := wi) (v := .agg ds.toArray) (iy140 : IsTy Tryz.prog 140 true 27) hzs hlen rfl hone.2
   have hw3 := hwi.other f3 (fun _ h => h.elim)
   refine WL.so rfl rfl hst3 (WL.nx ?_)
   have hat3 := hb3.at_ 0 27
   rw [List.drop_zero, List.take_of_length_le (Nat.le_of_eq hlen')] at hat3
   refine W.rg (WL.mv rfl rfl (WL.ld rfl (loadN iy140 hlen hat3) rfl ?_))
   have hcall := h t (List.mem_of_getElem? hn) ds hrep si Oi w3 hw3 (by omega)
   refine WL.callv rfl Tryz.call157 rfl rfl hcall ?_ ?_
   · rintro v w4 ⟨rfl, s4, O4, hs4, f4, hw4⟩
     refine WL.nil fun a ha => bN (tN ((W.rg (WL.bi rfl rfl rfl rfl (WL.mv rfl rfl (WL.nil fun a ha => tN ?_)))) a ha))
     have f34 : Fr Oi wi O4 w4 := (f3.drop (fun _ h => h.elim)).trans f4
     refine ⟨(i + 1, s4, O4), ha.weak ⟨rfl, rfl, rfl, rfl, ?_, trivial⟩, ⟨hlt, hw4, fi.trans f34, ?_⟩, by simp only; omega⟩
     · show some (Value.int .i64 (IntKind.i64.wrap ((i : Int) + 1))) = some (Value.int .i64 ((i + 1 : Nat) : Int))
       rw [wrap_i64 (by unfold isInt; omega)]; rfl
     · simp only; rw [take_snoc hn, encL_append, hei]; simp only [Option.bind_some, encL_one]; exact hs4
   · rintro ch w4 ⟨rfl, hs4, s4, O4, f4, hw4, hn1, hn2⟩ a ha
     have f34 : Fr Oi wi O4 w4 := (f3.drop (fun _ h => h.elim)).trans f4
     refine bP (tP (tP (bP (pP ha ⟨rfl, encL_none hn hei hs4, s4, O4, fi.trans f34, hw4, ?_, hn2⟩))))
     have := (encL_use _ _ _ hei (by omega)).2
     rw [this] at hn1; exact hn1
 · have hge : i = l.length := by simp at hf; omega
   subst hge
   refine post_end0 rfl ha ⟨rfl, si, Oi, ?_, fi, hwi⟩
   rw [List.take_length] at hei; exact hei
theorem c158 {w0 : World} {S : Nat → Prop} {p most long : Nat} {l : List T} (h : ∀ t ∈ l, WEnc w0 S p most long 159 (.st .global) t) : WList w0 S p most long 158 159 (.st .global) l := by
 intro cs hr s O w hw hu
 obtain ⟨g, cap, hv, hml, hg⟩ := list_val hr
 rw [hv, enc_list]
 have hll := T.wts_len l
 obtain ⟨z, hz0, hzs⟩ : ∃ z, (∀ w, (zeroValue 144).run Tryz.prog w = .ok z w) ∧ z.cells.size = 29 := ⟨_, Tryz.zeroValue144, rfl⟩
 have hul : l.length < 18446744073709551616 := by omega
 obtain ⟨vb, hvb, hrb, hput⟩ := hw.put
 refine cW 29 Tryz.func158 rfl rfl rfl ?_
 refine W.sq (W.rg (WL.mv rfl rfl (WL.mv rfl rfl (WL.nc rfl rfl (WL.fa rfl (field185_0 _ _ _) rfl (WL.ld rfl (load1 ty22 hvb) rfl (WL.mv rfl rfl ?_)))))))
 refine WL.len rfl (lS Tryz.underlying29) rfl (WL.convert rfl (conv_int Tryz.runUnderlying3 Tryz.runUnderlying164) rfl ?_)
 rw [wrap_u64 (by omega) (by omega)]
 refine WL.cl Tryz.call97 rfl rfl (c97 hrb hul (by have := num_len10 hul; simp only [WS.use] at hu; omega)) ?_ nop
 rintro v' w1 ⟨r1, f1⟩
 obtain ⟨w2, O2, hst, f2, hw2⟩ := hput v' w1 _ f1 r1
 refine WL.nc rfl rfl (WL.fa rfl (field185_0 _ _ _) rfl (WL.so rfl rfl hst (WL.kp [(0, ptr p), (1, .slice g l.length cap), (2, .func (.func 159) #[ptr p] #[])] ⟨rfl, rfl, rfl, trivial⟩ ?_)))
 refine W.sq (W.rg (WL.mv rfl rfl (WL.len rfl (lS Tryz.underlying29) rfl (WL.mv rfl rfl (WL.nx ?_)))))
 have hsu := WS.num_use (s := s) hul
 refine W.bk (W.loop (ι := Nat × WS × (Nat → Prop)) (fun i => [(0, ptr p), (2, .func (.func 159) #[ptr p] #[]), (19, .slice g l.length cap), (20, .int .i64 l.length), (21, .int .i64 i.1)])
  (fun i w' => i.1 ≤ l.length ∧ WSt w0 S p most long i.2.1 i.2.2 w' ∧ Fr O w i.2.2 w' ∧ encL most long (l.take i.1) (s.num l.length) = some i.2.1) (fun i => l.length - i.1)
  (0, s.num l.length, O2) ⟨rfl, rfl, rfl, rfl, rfl, trivial⟩ ⟨Nat.zero_le _, hw2, f2, rfl⟩ ?_)
 rintro ⟨i, si, Oi⟩ wi ⟨hi, hwi, fi, hei⟩
 simp only at hi hwi fi hei ⊢
 refine W.sq (W.rg (WL.bi rfl rfl rfl rfl (WL.nx (W.sq ?_))))
 refine W.cond rfl (fun ht => W.skip fun a ha => tN ?_) (fun hf => W.exit fun a ha => tE (tE (eH ?_)))
 · have hlt : i < l.length := by simp at ht; omega
   obtain ⟨t, hn⟩ : ∃ t, l[i]? = some t := ⟨_, List.getElem?_eq_getElem hlt⟩
   rcases hg with ⟨_, rfl⟩ | ⟨b, o, rfl, hS, hb, hrl⟩
   · simp at hlt
   obtain ⟨ds, hat, hlen, hrep⟩ := RepL.get hrl hn
   have hlen' : ds.length = 29 := hlen
   have hone := Rep.one _ _ _ hrep
   have hat2 := At.input hwi hS hb hat
   have hwt := T.wts_take hn
   have hui := (encL_use _ _ _ hei (by omega)).1
   refine (W.sq (W.bk (W.sq (W.rg (WL.ix rfl rfl (indexSlice Tryz.underlying29 (iy144 : IsTy Tryz.prog 144 true 29) (by omega) (by omega)) rfl ?_))))) a ha
   rw [Int.toNat_natCast]
   refine WL.ld rfl (loadN iy144 hlen hat2) rfl (WL.alloc (hz0 _) rfl ?_)
   obtain ⟨w3, hst3, hb3, f3, hsz3⟩ := new_var (P := Tryz.prog) (w := wi) (v := .agg ds.toArray) (iy144 : IsTy Tryz.prog 144 true 29) hzs hlen rfl hone.2
   have hw3 := hwi.other f3 (fun _ h => h.elim)
   refine WL.so rfl rfl hst3 (WL.nx ?_)
   have hat3 := hb3.at_ 0 29
   rw [List.drop_zero, List.take_of_length_le (Nat.le_of_eq hlen')] at hat3
   refine W.rg (WL.mv rfl rfl (WL.ld rfl (loadN iy144 hlen hat3) rfl ?_))
   have hcall := h t (List.mem_of_getElem? hn) ds hrep si Oi w3 hw3 (by omega)
   refine WL.callv rfl Tryz.call159 rfl rfl hcall ?_ ?_
   · rintro v w4 ⟨rfl, s4, O4, hs4, f4, hw4⟩
     refine WL.nil fun a ha => bN (tN ((W.rg (WL.bi rfl rfl rfl rfl (WL.mv rfl rfl (WL.nil fun a ha => tN ?_)))) a ha))
     have f34 : Fr Oi wi O4 w4 := (f3.drop (fun _ h => h.elim)).trans f4
     refine ⟨(i + 1, s4, O4), ha.weak ⟨rfl, rfl, rfl, rfl, ?_, trivial⟩, ⟨hlt, hw4, fi.trans f34, ?_⟩, by simp only; omega⟩
     · show some (Value.int .i64 (IntKind.i64.wrap ((i : Int) + 1))) = some (Value.int .i64 ((i + 1 : Nat) : Int))
       rw [wrap_i64 (by unfold isInt; omega)]; rfl
     · simp only; rw [take_snoc hn, encL_append, hei]; simp only [Option.bind_some, encL_one]; exact hs4
   · rintro ch w4 ⟨rfl, hs4, s4, O4, f4, hw4, hn1, hn2⟩ a ha
     have f34 : Fr Oi wi O4 w4 := (f3.drop (fun _ h => h.elim)).trans f4
     refine bP (tP (tP (bP (pP ha ⟨rfl, encL_none hn hei hs4, s4, O4, fi.trans f34, hw4, ?_, hn2⟩))))
     have := (encL_use _ _ _ hei (by omega)).2
     rw [this] at hn1; exact hn1
 · have hge : i = l.length := by simp at hf; omega
   subst hge
   refine post_end0 rfl ha ⟨rfl, si, Oi, ?_, fi, hwi⟩
   rw [List.take_length] at hei; exact hei
theorem c160 {w0 : World} {S : Nat → Prop} {p most long : Nat} {l : List T} (h : ∀ t ∈ l, WEnc w0 S p most long 161 (.st .key) t) : WList w0 S p most long 160 161 (.st .key) l := by
 intro cs hr s O w hw hu
 obtain ⟨g, cap, hv, hml, hg⟩ := list_val hr
 rw [hv, enc_list]
 have hll := T.wts_len l
 obtain ⟨z, hz0, hzs⟩ : ∃ z, (∀ w, (zeroValue 76).run Tryz.prog w = .ok z w) ∧ z.cells.size = 18 := ⟨_, Tryz.zeroValue76, rfl⟩
 have hul : l.length < 18446744073709551616 := by omega
 obtain ⟨vb, hvb, hrb, hput⟩ := hw.put
 refine cW 29 Tryz.func160 rfl rfl rfl ?_
 refine W.sq (W.rg (WL.mv rfl rfl (WL.mv rfl rfl (WL.nc rfl rfl (WL.fa rfl (field185_0 _ _ _) rfl (WL.ld rfl (load1 ty22 hvb) rfl (WL.mv rfl rfl ?_)))))))
 refine WL.len rfl (lS Tryz.underlying30) rfl (WL.convert rfl (conv_int Tryz.runUnderlying3 Tryz.runUnderlying164) rfl ?_)
 rw [wrap_u64 (by omega) (by omega)]
 refine WL.cl Tryz.call97 rfl rfl (c97 hrb hul (by have := num_len10 hul; simp only [WS.use] at hu; omega)) ?_ nop
 rintro v' w1 ⟨r1, f1⟩
 obtain ⟨w2, O2, hst, f2, hw2⟩ := hput v' w1 _ f1 r1
 refine WL.nc rfl rfl (WL.fa rfl (field185_0 _ _ _) rfl (WL.so rfl rfl hst (WL.kp [(0, ptr p), (1, .slice g l.length cap), (2, .func (.func 161) #[ptr p] #[])] ⟨rfl, rfl, rfl, trivial⟩ ?_)))
 refine W.sq (W.rg (WL.mv rfl rfl (WL.len rfl (lS Tryz.underlying30) rfl (WL.mv rfl rfl (WL.nx ?_)))))
 have hsu := WS.num_use (s := s) hul
 refine W.bk (W.loop (ι := Nat × WS × (Nat → Prop)) (fun i => [(0, ptr p), (2, .func (.func 161) #[ptr p] #[]), (19, .slice g l.length cap), (20, .int .i64 l.length), (21, .int .i64 i.1)])
  (fun i w' => i.1 ≤ l.length ∧ WSt w0 S p most long i.2.1 i.2.2 w' ∧ Fr O w i.2.2 w' ∧ encL most long (l.take i.1) (s.num l.length) = some i.2.1) (fun i => l.length - i.1)
  (0, s.num l.length, O2) ⟨rfl, rfl, rfl, rfl, rfl, trivial⟩ ⟨Nat.zero_le _, hw2, f2, rfl⟩ ?_)
 rintro ⟨i, si, Oi⟩ wi ⟨hi, hwi, fi, hei⟩
 simp only at hi hwi fi hei ⊢
 refine W.sq (W.rg (WL.bi rfl rfl rfl rfl (WL.nx (W.sq ?_))))
 refine W.cond rfl (fun ht => W.skip fun a ha => tN ?_) (fun hf => W.exit fun a ha => tE (tE (eH ?_)))
 · have hlt : i < l.length := by simp at ht; omega
   obtain ⟨t, hn⟩ : ∃ t, l[i]? = some t := ⟨_, List.getElem?_eq_getElem hlt⟩
   rcases hg with ⟨_, rfl⟩ | ⟨b, o, rfl, hS, hb, hrl⟩
   · simp at hlt
   obtain ⟨ds, hat, hlen, hrep⟩ := RepL.get hrl hn
   have hlen' : ds.length = 18 := hlen
   have hone := Rep.one _ _ _ hrep
   have hat2 := At.input hwi hS hb hat
   have hwt := T.wts_take hn
   have hui := (encL_use _ _ _ hei (by omega)).1
   refine (W.sq (W.bk (W.sq (W.rg (WL.ix rfl rfl (indexSlice Tryz.underlying30 (iy76 : IsTy Tryz.prog 76 true 18) (by omega) (by omega)) rfl ?_))))) a ha
   rw [Int.toNat_natCast]
   refine WL.ld rfl (loadN iy76 hlen hat2) rfl (WL.alloc (hz0 _) rfl ?_)
   obtain ⟨w3, hst3, hb3, f3, hsz3⟩ := new_var (P := Tryz.prog) (w := wi) (v := .agg ds.toArray) (iy76 : IsTy Tryz.prog 76 true 18) hzs hlen rfl hone.2
   have hw3 := hwi.other f3 (fun _ h => h.elim)
   refine WL.so rfl rfl hst3 (WL.nx ?_)
   have hat3 := hb3.at_ 0 18
   rw [List.drop_zero, List.take_of_length_le (Nat.le_of_eq hlen')] at hat3
   refine W.rg (WL.mv rfl rfl (WL.ld rfl (loadN iy76 hlen hat3) rfl ?_))
   have hcall := h t (List.mem_of_getElem? hn) ds hrep si Oi w3 hw3 (by omega)
   refine WL.callv rfl Tryz.call161 rfl rfl hcall ?_ ?_
   · rintro v w4 ⟨rfl, s4, O4, hs4, f4, hw4⟩
     refine WL.nil fun a ha => bN (tN ((W.rg (WL.bi rfl rfl rfl rfl (WL.mv rfl rfl (WL.nil fun a ha => tN ?_)))) a ha))
     have f34 : Fr Oi wi O4 w4 := (f3.drop (fun _ h => h.elim)).trans f4
     refine ⟨(i + 1, s4, O4), ha.weak ⟨rfl, rfl, rfl, rfl, ?_, trivial⟩, ⟨hlt, hw4, fi.trans f34, ?_⟩, by simp only; omega⟩
     · show some (Value.int .i64 (IntKind.i64.wrap ((i : Int) + 1))) = some (Value.int .i64 ((i + 1 : Nat) : Int))
       rw [wrap_i64 (by unfold isInt; omega)]; rfl
     · simp only; rw [take_snoc hn, encL_append, hei]; simp only [Option.bind_some, encL_one]; exact hs4
   · rintro ch w4 ⟨rfl, hs4, s4, O4, f4, hw4, hn1, hn2⟩ a ha
     have f34 : Fr Oi wi O4 w4 := (f3.drop (fun _ h => h.elim)).trans f4
     refine bP (tP (tP (bP (pP ha ⟨rfl, encL_none hn hei hs4, s4, O4, fi.trans f34, hw4, ?_, hn2⟩))))
     have := (encL_use _ _ _ hei (by omega)).2
     rw [this] at hn1; exact hn1
 · have hge : i = l.length := by simp at hf; omega
   subst hge
   refine post_end0 rfl ha ⟨rfl, si, Oi, ?_, fi, hwi⟩
   rw [List.take_length] at hei; exact hei
theorem c162 {w0 : World} {S : Nat → Prop} {p most long : Nat} {l : List T} (h : ∀ t ∈ l, WEnc w0 S p most long 163 (.st .accum) t) : WList w0 S p most long 162 163 (.st .accum) l := by
 intro cs hr s O w hw hu
 obtain ⟨g, cap, hv, hml, hg⟩ := list_val hr
 rw [hv, enc_list]
 have hll := T.wts_len l
 obtain ⟨z, hz0, hzs⟩ : ∃ z, (∀ w, (zeroValue 151).run Tryz.prog w = .ok z w) ∧ z.cells.size = 18 := ⟨_, Tryz.zeroValue151, rfl⟩
 have hul : l.length < 18446744073709551616 := by omega
 obtain ⟨vb, hvb, hrb, hput⟩ := hw.put
 refine cW 29 Tryz.func162 rfl rfl rfl ?_
 refine W.sq (W.rg (WL.mv rfl rfl (WL.mv rfl rfl (WL.nc rfl rfl (WL.fa rfl (field185_0 _ _ _) rfl (WL.ld rfl (load1 ty22 hvb) rfl (WL.mv rfl rfl ?_)))))))
 refine WL.len rfl (lS Tryz.underlying31) rfl (WL.convert rfl (conv_int Tryz.runUnderlying3 Tryz.runUnderlying164) rfl ?_)
 rw [wrap_u64 (by omega) (by omega)]
 refine WL.cl Tryz.call97 rfl rfl (c97 hrb hul (by have := num_len10 hul; simp only [WS.use] at hu; omega)) ?_ nop
 rintro v' w1 ⟨r1, f1⟩
 obtain ⟨w2, O2, hst, f2, hw2⟩ := hput v' w1 _ f1 r1
 refine WL.nc rfl rfl (WL.fa rfl (field185_0 _ _ _) rfl (WL.so rfl rfl hst (WL.kp [(0, ptr p), (1, .slice g l.length cap), (2, .func (.func 163) #[ptr p] #[])] ⟨rfl, rfl, rfl, trivial⟩ ?_)))
 refine W.sq (W.rg (WL.mv rfl rfl (WL.len rfl (lS Tryz.underlying31) rfl (WL.mv rfl rfl (WL.nx ?_)))))
 have hsu := WS.num_use (s := s) hul
 refine W.bk (W.loop (ι := Nat × WS × (Nat → Prop)) (fun i => [(0, ptr p), (2, .func (.func 163) #[ptr p] #[]), (19, .slice g l.length cap), (20, .int .i64 l.length), (21, .int .i64 i.1)])
  (fun i w' => i.1 ≤ l.length ∧ WSt w0 S p most long i.2.1 i.2.2 w' ∧ Fr O w i.2.2 w' ∧ encL most long (l.take i.1) (s.num l.length) = some i.2.1) (fun i => l.length - i.1)
  (0, s.num l.length, O2) ⟨rfl, rfl, rfl, rfl, rfl, trivial⟩ ⟨Nat.zero_le _, hw2, f2, rfl⟩ ?_)
 rintro ⟨i, si, Oi⟩ wi ⟨hi, hwi, fi, hei⟩
 simp only at hi hwi fi hei ⊢
 refine W.sq (W.rg (WL.bi rfl rfl rfl rfl (WL.nx (W.sq ?_))))
 refine W.cond rfl (fun ht => W.skip fun a ha => tN ?_) (fun hf => W.exit fun a ha => tE (tE (eH ?_)))
 · have hlt : i < l.length := by simp at ht; omega
   obtain ⟨t, hn⟩ : ∃ t, l[i]? = some t := ⟨_, List.getElem?_eq_getElem hlt⟩
   rcases hg with ⟨_, rfl⟩ | ⟨b, o, rfl, hS, hb, hrl⟩
   · simp at hlt
   obtain ⟨ds, hat, hlen, hrep⟩ := RepL.get hrl hn
   have hlen' : ds.length = 18 := hlen
   have hone := Rep.one _ _ _ hrep
   have hat2 := At.input hwi hS hb hat
   have hwt := T.wts_take hn
   have hui := (encL_use _ _ _ hei (by omega)).1
   refine (W.sq (W.bk (W.sq (W.rg (WL.ix rfl rfl (indexSlice Tryz.underlying31 (iy151 : IsTy Tryz.prog 151 true 18) (by omega) (by omega)) rfl ?_))))) a ha
   rw [Int.toNat_natCast]
   refine WL.ld rfl (loadN iy151 hlen hat2) rfl (WL.alloc (hz0 _) rfl ?_)
   obtain ⟨w3, hst3, hb3, f3, hsz3⟩ := new_var (P := Tryz.prog) (w := wi) (v := .agg ds.toArray) (iy151 : IsTy Tryz.prog 151 true 18) hzs hlen rfl hone.2
   have hw3 := hwi.other f3 (fun _ h => h.elim)
   refine WL.so rfl rfl hst3 (WL.nx ?_)
   have hat3 := hb3.at_ 0 18
   rw [List.drop_zero, List.take_of_length_le (Nat.le_of_eq hlen')] at hat3
   refine W.rg (WL.mv rfl rfl (WL.ld rfl (loadN iy151 hlen hat3) rfl ?_))
   have hcall := h t (List.mem_of_getElem? hn) ds hrep si Oi w3 hw3 (by omega)
   refine WL.callv rfl Tryz.call163 rfl rfl hcall ?_ ?_
   · rintro v w4 ⟨rfl, s4, O4, hs4, f4, hw4⟩
     refine WL.nil fun a ha => bN (tN ((W.rg (WL.bi rfl rfl rfl rfl (WL.mv rfl rfl (WL.nil fun a ha => tN ?_)))) a ha))
     have f34 : Fr Oi wi O4 w4 := (f3.drop (fun _ h => h.elim)).trans f4
     refine ⟨(i + 1, s4, O4), ha.weak ⟨rfl, rfl, rfl, rfl, ?_, trivial⟩, ⟨hlt, hw4, fi.trans f34, ?_⟩, by simp only; omega⟩
     · show some (Value.int .i64 (IntKind.i64.wrap ((i : Int) + 1))) = some (Value.int .i64 ((i + 1 : Nat) : Int))
       rw [wrap_i64 (by unfold isInt; omega)]; rfl
     · simp only; rw [take_snoc hn, encL_append, hei]; simp only [Option.bind_some, encL_one]; exact hs4
   · rintro ch w4 ⟨rfl, hs4, s4, O4, f4, hw4, hn1, hn2⟩ a ha
     have f34 : Fr Oi wi O4 w4 := (f3.drop (fun _ h => h.elim)).trans f4
     refine bP (tP (tP (bP (pP ha ⟨rfl, encL_none hn hei hs4, s4, O4, fi.trans f34, hw4, ?_, hn2⟩))))
     have := (encL_use _ _ _ hei (by omega)).2
     rw [this] at hn1; exact hn1
 · have hge : i = l.length := by simp at hf; omega
   subst hge
   refine post_end0 rfl ha ⟨rfl, si, Oi, ?_, fi, hwi⟩
   rw [List.take_length] at hei; exact hei
theorem c164 {w0 : World} {S : Nat → Prop} {p most long : Nat} {l : List T} (h : ∀ t ∈ l, WEnc w0 S p most long 165 (.st .mode) t) : WList w0 S p most long 164 165 (.st .mode) l := by
 intro cs hr s O w hw hu
 obtain ⟨g, cap, hv, hml, hg⟩ := list_val hr
 rw [hv, enc_list]
 have hll := T.wts_len l
 obtain ⟨z, hz0, hzs⟩ : ∃ z, (∀ w, (zeroValue 84).run Tryz.prog w = .ok z w) ∧ z.cells.size = 6 := ⟨_, Tryz.zeroValue84, rfl⟩
 have hul : l.length < 18446744073709551616 := by omega
 obtain ⟨vb, hvb, hrb, hput⟩ := hw.put
 refine cW 29 Tryz.func164 rfl rfl rfl ?_
 refine W.sq (W.rg (WL.mv rfl rfl (WL.mv rfl rfl (WL.nc rfl rfl (WL.fa rfl (field185_0 _ _ _) rfl (WL.ld rfl (load1 ty22 hvb) rfl (WL.mv rfl rfl ?_)))))))
 refine WL.len rfl (lS Tryz.underlying32) rfl (WL.convert rfl (conv_int Tryz.runUnderlying3 Tryz.runUnderlying164) rfl ?_)
 rw [wrap_u64 (by omega) (by omega)]
 refine WL.cl Tryz.call97 rfl rfl (c97 hrb hul (by have := num_len10 hul; simp only [WS.use] at hu; omega)) ?_ nop
 rintro v' w1 ⟨r1, f1⟩
 obtain ⟨w2, O2, hst, f2, hw2⟩ := hput v' w1 _ f1 r1
 refine WL.nc rfl rfl (WL.fa rfl (field185_0 _ _ _) rfl (WL.so rfl rfl hst (WL.kp [(0, ptr p), (1, .slice g l.length cap), (2, .func (.func 165) #[ptr p] #[])] ⟨rfl, rfl, rfl, trivial⟩ ?_)))
 refine W.sq (W.rg (WL.mv rfl rfl (WL.len rfl (lS Tryz.underlying32) rfl (WL.mv rfl rfl (WL.nx ?_)))))
 have hsu := WS.num_use (s := s) hul
 refine W.bk (W.loop (ι := Nat × WS × (Nat → Prop)) (fun i => [(0, ptr p), (2, .func (.func 165) #[ptr p] #[]), (19, .slice g l.length cap), (20, .int .i64 l.length), (21, .int .i64 i.1)])
  (fun i w' => i.1 ≤ l.length ∧ WSt w0 S p most long i.2.1 i.2.2 w' ∧ Fr O w i.2.2 w' ∧ encL most long (l.take i.1) (s.num l.length) = some i.2.1) (fun i => l.length - i.1)
  (0, s.num l.length, O2) ⟨rfl, rfl, rfl, rfl, rfl, trivial⟩ ⟨Nat.zero_le _, hw2, f2, rfl⟩ ?_)
 rintro ⟨i, si, Oi⟩ wi ⟨hi, hwi, fi, hei⟩
 simp only at hi hwi fi hei ⊢
 refine W.sq (W.rg (WL.bi rfl rfl rfl rfl (WL.nx (W.sq ?_))))
 refine W.cond rfl (fun ht => W.skip fun a ha => tN ?_) (fun hf => W.exit fun a ha => tE (tE (eH ?_)))
 · have hlt : i < l.length := by simp at ht; omega
   obtain ⟨t, hn⟩ : ∃ t, l[i]? = some t := ⟨_, List.getElem?_eq_getElem hlt⟩
   rcases hg with ⟨_, rfl⟩ | ⟨b, o, rfl, hS, hb, hrl⟩
   · simp at hlt
   obtain ⟨ds, hat, hlen, hrep⟩ := RepL.get hrl hn
   have hlen' : ds.length = 6 := hlen
   have hone := Rep.one _ _ _ hrep
   have hat2 := At.input hwi hS hb hat
   have hwt := T.wts_take hn
   have hui := (encL_use _ _ _ hei (by omega)).1
   refine (W.sq (W.bk (W.sq (W.rg (WL.ix rfl rfl (indexSlice Tryz.underlying32 (iy84 : IsTy Tryz.prog 84 true 6) (by omega) (by omega)) rfl ?_))))) a ha
   rw [Int.toNat_natCast]
   refine WL.ld rfl (loadN iy84 hlen hat2) rfl (WL.alloc (hz0 _) rfl ?_)
   obtain ⟨w3, hst3, hb3, f3, hsz3⟩ := new_var (P := Tryz.prog) (w := wi) (v := .agg ds.toArray) (iy84 : IsTy Tryz.prog 84 true 6) hzs hlen rfl hone.2
   have hw3 := hwi.other f3 (fun _ h => h.elim)
   refine WL.so rfl rfl hst3 (WL.nx ?_)
   have hat3 := hb3.at_ 0 6
   rw [List.drop_zero, List.take_of_length_le (Nat.le_of_eq hlen')] at hat3
   refine W.rg (WL.mv rfl rfl (WL.ld rfl (loadN iy84 hlen hat3) rfl ?_))
   have hcall := h t (List.mem_of_getElem? hn) ds hrep si Oi w3 hw3 (by omega)
   refine WL.callv rfl Tryz.call165 rfl rfl hcall ?_ ?_
   · rintro v w4 ⟨rfl, s4, O4, hs4, f4, hw4⟩
     refine WL.nil fun a ha => bN (tN ((W.rg (WL.bi rfl rfl rfl rfl (WL.mv rfl rfl (WL.nil fun a ha => tN ?_)))) a ha))
     have f34 : Fr Oi wi O4 w4 := (f3.drop (fun _ h => h.elim)).trans f4
     refine ⟨(i + 1, s4, O4), ha.weak ⟨rfl, rfl, rfl, rfl, ?_, trivial⟩, ⟨hlt, hw4, fi.trans f34, ?_⟩, by simp only; omega⟩
     · show some (Value.int .i64 (IntKind.i64.wrap ((i : Int) + 1))) = some (Value.int .i64 ((i + 1 : Nat) : Int))
       rw [wrap_i64 (by unfold isInt; omega)]; rfl
     · simp only; rw [take_snoc hn, encL_append, hei]; simp only [Option.bind_some, encL_one]; exact hs4
   · rintro ch w4 ⟨rfl, hs4, s4, O4, f4, hw4, hn1, hn2⟩ a ha
     have f34 : Fr Oi wi O4 w4 := (f3.drop (fun _ h => h.elim)).trans f4
     refine bP (tP (tP (bP (pP ha ⟨rfl, encL_none hn hei hs4, s4, O4, fi.trans f34, hw4, ?_, hn2⟩))))
     have := (encL_use _ _ _ hei (by omega)).2
     rw [this] at hn1; exact hn1
 · have hge : i = l.length := by simp at hf; omega
   subst hge
   refine post_end0 rfl ha ⟨rfl, si, Oi, ?_, fi, hwi⟩
   rw [List.take_length] at hei; exact hei
theorem c166 {w0 : World} {S : Nat → Prop} {p most long : Nat} {l : List T} (h : ∀ t ∈ l, WEnc w0 S p most long 167 (.st .output) t) : WList w0 S p most long 166 167 (.st .output) l := by
 intro cs hr s O w hw hu
 obtain ⟨g, cap, hv, hml, hg⟩ := list_val hr
 rw [hv, enc_list]
 have hll := T.wts_len l
 obtain ⟨z, hz0, hzs⟩ : ∃ z, (∀ w, (zeroValue 157).run Tryz.prog w = .ok z w) ∧ z.cells.size = 5 := ⟨_, Tryz.zeroValue157, rfl⟩
 have hul : l.length < 18446744073709551616 := by omega
 obtain ⟨vb, hvb, hrb, hput⟩ := hw.put
 refine cW 29 Tryz.func166 rfl rfl rfl ?_
 refine W.sq (W.rg (WL.mv rfl rfl (WL.mv rfl rfl (WL.nc rfl rfl (WL.fa rfl (field185_0 _ _ _) rfl (WL.ld rfl (load1 ty22 hvb) rfl (WL.mv rfl rfl ?_)))))))
 refine WL.len rfl (lS Tryz.underlying33) rfl (WL.convert rfl (conv_int Tryz.runUnderlying3 Tryz.runUnderlying164) rfl ?_)
 rw [wrap_u64 (by omega) (by omega)]
 refine WL.cl Tryz.call97 rfl rfl (c97 hrb hul (by have := num_len10 hul; simp only [WS.use] at hu; omega)) ?_ nop
 rintro v' w1 ⟨r1, f1⟩
 obtain ⟨w2, O2, hst, f2, hw2⟩ := hput v' w1 _ f1 r1
 refine WL.nc rfl rfl (WL.fa rfl (field185_0 _ _ _) rfl (WL.so rfl rfl hst (WL.kp [(0, ptr p), (1, .slice g l.length cap), (2, .func (.func 167) #[ptr p] #[])] ⟨rfl, rfl, rfl, trivial⟩ ?_)))
 refine W.sq (W.rg (WL.mv rfl rfl (WL.len rfl (lS Tryz.underlying33) rfl (WL.mv rfl rfl (WL.nx ?_)))))
 have hsu := WS.num_use (s := s) hul
 refine W.bk (W.loop (ι := Nat × WS × (Nat → Prop)) (fun i => [(0, ptr p), (2, .func (.func 167) #[ptr p] #[]), (19, .slice g l.length cap), (20, .int .i64 l.length), (21, .int .i64 i.1)])
  (fun i w' => i.1 ≤ l.length ∧ WSt w0 S p most long i.2.1 i.2.2 w' ∧ Fr O w i.2.2 w' ∧ encL most long (l.take i.1) (s.num l.length) = some i.2.1) (fun i => l.length - i.1)
  (0, s.num l.length, O2) ⟨rfl, rfl, rfl, rfl, rfl, trivial⟩ ⟨Nat.zero_le _, hw2, f2, rfl⟩ ?_)
 rintro ⟨i, si, Oi⟩ wi ⟨hi, hwi, fi, hei⟩
 simp only at hi hwi fi hei ⊢
 refine W.sq (W.rg (WL.bi rfl rfl rfl rfl (WL.nx (W.sq ?_))))
 refine W.cond rfl (fun ht => W.skip fun a ha => tN ?_) (fun hf => W.exit fun a ha => tE (tE (eH ?_)))
 · have hlt : i < l.length := by simp at ht; omega
   obtain ⟨t, hn⟩ : ∃ t, l[i]? = some t := ⟨_, List.getElem?_eq_getElem hlt⟩
   rcases hg with ⟨_, rfl⟩ | ⟨b, o, rfl, hS, hb, hrl⟩
   · simp at hlt
   obtain ⟨ds, hat, hlen, hrep⟩ := RepL.get hrl hn
   have hlen' : ds.length = 5 := hlen
   have hone := Rep.one _ _ _ hrep
   have hat2 := At.input hwi hS hb hat
   have hwt := T.wts_take hn
   have hui := (encL_use _ _ _ hei (by omega)).1
   refine (W.sq (W.bk (W.sq (W.rg (WL.ix rfl rfl (indexSlice Tryz.underlying33 (iy157 : IsTy Tryz.prog 157 true 5) (by omega) (by omega)) rfl ?_))))) a ha
   rw [Int.toNat_natCast]
   refine WL.ld rfl (loadN iy157 hlen hat2) rfl (WL.alloc (hz0 _) rfl ?_)
   obtain ⟨w3, hst3, hb3, f3, hsz3⟩ := new_var (P := Tryz.prog) (w := wi) (v := .agg ds.toArray) (iy157 : IsTy Tryz.prog 157 true 5) hzs hlen rfl hone.2
   have hw3 := hwi.other f3 (fun _ h => h.elim)
   refine WL.so rfl rfl hst3 (WL.nx ?_)
   have hat3 := hb3.at_ 0 5
   rw [List.drop_zero, List.take_of_length_le (Nat.le_of_eq hlen')] at hat3
   refine W.rg (WL.mv rfl rfl (WL.ld rfl (loadN iy157 hlen hat3) rfl ?_))
   have hcall := h t (List.mem_of_getElem? hn) ds hrep si Oi w3 hw3 (by omega)
   refine WL.callv rfl Tryz.call167 rfl rfl hcall ?_ ?_
   · rintro v w4 ⟨rfl, s4, O4, hs4, f4, hw4⟩
     refine WL.nil fun a ha => bN (tN ((W.rg (WL.bi rfl rfl rfl rfl (WL.mv rfl rfl (WL.nil fun a ha => tN ?_)))) a ha))
     have f34 : Fr Oi wi O4 w4 := (f3.drop (fun _ h => h.elim)).trans f4
     refine ⟨(i + 1, s4, O4), ha.weak ⟨rfl, rfl, rfl, rfl, ?_, trivial⟩, ⟨hlt, hw4, fi.trans f34, ?_⟩, by simp only; omega⟩
     · show some (Value.int .i64 (IntKind.i64.wrap ((i : Int) + 1))) = some (Value.int .i64 ((i + 1 : Nat) : Int))
       rw [wrap_i64 (by unfold isInt; omega)]; rfl
     · simp only; rw [take_snoc hn, encL_append, hei]; simp only [Option.bind_some, encL_one]; exact hs4
   · rintro ch w4 ⟨rfl, hs4, s4, O4, f4, hw4, hn1, hn2⟩ a ha
     have f34 : Fr Oi wi O4 w4 := (f3.drop (fun _ h => h.elim)).trans f4
     refine bP (tP (tP (bP (pP ha ⟨rfl, encL_none hn hei hs4, s4, O4, fi.trans f34, hw4, ?_, hn2⟩))))
     have := (encL_use _ _ _ hei (by omega)).2
     rw [this] at hn1; exact hn1
 · have hge : i = l.length := by simp at hf; omega
   subst hge
   refine post_end0 rfl ha ⟨rfl, si, Oi, ?_, fi, hwi⟩
   rw [List.take_length] at hei; exact hei
theorem c168 {w0 : World} {S : Nat → Prop} {p most long : Nat} {l : List T} (h : ∀ t ∈ l, WEnc w0 S p most long 169 (.st .charMap) t) : WList w0 S p most long 168 169 (.st .charMap) l := by
 intro cs hr s O w hw hu
 obtain ⟨g, cap, hv, hml, hg⟩ := list_val hr
 rw [hv, enc_list]
 have hll := T.wts_len l
 obtain ⟨z, hz0, hzs⟩ : ∃ z, (∀ w, (zeroValue 162).run Tryz.prog w = .ok z w) ∧ z.cells.size = 2 := ⟨_, Tryz.zeroValue162, rfl⟩
 have hul : l.length < 18446744073709551616 := by omega
 obtain ⟨vb, hvb, hrb, hput⟩ := hw.put
 refine cW 29 Tryz.func168 rfl rfl rfl ?_
 refine W.sq (W.rg (WL.mv rfl rfl (WL.mv rfl rfl (WL.nc rfl rfl (WL.fa rfl (field185_0 _ _ _) rfl (WL.ld rfl (load1 ty22 hvb) rfl (WL.mv rfl rfl ?_)))))))
 refine WL.len rfl (lS Tryz.underlying34) rfl (WL.convert rfl (conv_int Tryz.runUnderlying3 Tryz.runUnderlying164) rfl ?_)
 rw [wrap_u64 (by omega) (by omega)]
 refine WL.cl Tryz.call97 rfl rfl (c97 hrb hul (by have := num_len10 hul; simp only [WS.use] at hu; omega)) ?_ nop
 rintro v' w1 ⟨r1, f1⟩
 obtain ⟨w2, O2, hst, f2, hw2⟩ := hput v' w1 _ f1 r1
 refine WL.nc rfl rfl (WL.fa rfl (field185_0 _ _ _) rfl (WL.so rfl rfl hst (WL.kp [(0, ptr p), (1, .slice g l.length cap), (2, .func (.func 169) #[ptr p] #[])] ⟨rfl, rfl, rfl, trivial⟩ ?_)))
 refine W.sq (W.rg (WL.mv rfl rfl (WL.len rfl (lS Tryz.underlying34) rfl (WL.mv rfl rfl (WL.nx ?_)))))
 have hsu := WS.num_use (s := s) hul
 refine W.bk (W.loop (ι := Nat × WS × (Nat → Prop)) (fun i => [(0, ptr p), (2, .func (.func 169) #[ptr p] #[]), (19, .slice g l.length cap), (20, .int .i64 l.length), (21, .int .i64 i.1)])
  (fun i w' => i.1 ≤ l.length ∧ WSt w0 S p most long i.2.1 i.2.2 w' ∧ Fr O w i.2.2 w' ∧ encL most long (l.take i.1) (s.num l.length) = some i.2.1) (fun i => l.length - i.1)
  (0, s.num l.length, O2) ⟨rfl, rfl, rfl, rfl, rfl, trivial⟩ ⟨Nat.zero_le _, hw2, f2, rfl⟩ ?_)
 rintro ⟨i, si, Oi⟩ wi ⟨hi, hwi, fi, hei⟩
 simp only at hi hwi fi hei ⊢
 refine W.sq (W.rg (WL.bi rfl rfl rfl rfl (WL.nx (W.sq ?_))))
 refine W.cond rfl (fun ht => W.skip fun a ha => tN ?_) (fun hf => W.exit fun a ha => tE (tE (eH ?_)))
 · have hlt : i < l.length := by simp at ht; omega
   obtain ⟨t, hn⟩ : ∃ t, l[i]? = some t := ⟨_, List.getElem?_eq_getElem hlt⟩
   rcases hg with ⟨_, rfl⟩ | ⟨b, o, rfl, hS, hb, hrl⟩
   · simp at hlt
   obtain ⟨ds, hat, hlen, hrep⟩ := RepL.get hrl hn
   have hlen' : ds.length = 2 := hlen
   have hone := Rep.one _ _ _ hrep
   have hat2 := At.input hwi hS hb hat
   have hwt := T.wts_take hn
   have hui := (encL_use _ _ _ hei (by omega)).1
   refine (W.sq (W.bk (W.sq (W.rg (WL.ix rfl rfl (indexSlice Tryz.underlying34 (iy162 : IsTy Tryz.prog 162 true 2) (by omega) (by omega)) rfl ?_))))) a ha
   rw [Int.toNat_natCast]
   refine WL.ld rfl (loadN iy162 hlen hat2) rfl (WL.alloc (hz0 _) rfl ?_)
   obtain ⟨w3, hst3, hb3, f3, hsz3⟩ := new_var (P := Tryz.prog) (w := wi) (v := .agg ds.toArray) (iy162 : IsTy Tryz.prog 162 true 2) hzs hlen rfl hone.2
   have hw3 := hwi.other f3 (fun _ h => h.elim)
   refine WL.so rfl rfl hst3 (WL.nx ?_)
   have hat3 := hb3.at_ 0 2
   rw [List.drop_zero, List.take_of_length_le (Nat.le_of_eq hlen')] at hat3
   refine W.rg (WL.mv rfl rfl (WL.ld rfl (loadN iy162 hlen hat3) rfl ?_))
   have hcall := h t (List.mem_of_getElem? hn) ds hrep si Oi w3 hw3 (by omega)
   refine WL.callv rfl Tryz.call169 rfl rfl hcall ?_ ?_
   · rintro v w4 ⟨rfl, s4, O4, hs4, f4, hw4⟩
     refine WL.nil fun a ha => bN (tN ((W.rg (WL.bi rfl rfl rfl rfl (WL.mv rfl rfl (WL.nil fun a ha => tN ?_)))) a ha))
     have f34 : Fr Oi wi O4 w4 := (f3.drop (fun _ h => h.elim)).trans f4
     refine ⟨(i + 1, s4, O4), ha.weak ⟨rfl, rfl, rfl, rfl, ?_, trivial⟩, ⟨hlt, hw4, fi.trans f34, ?_⟩, by simp only; omega⟩
     · show some (Value.int .i64 (IntKind.i64.wrap ((i : Int) + 1))) = some (Value.int .i64 ((i + 1 : Nat) : Int))
       rw [wrap_i64 (by unfold isInt; omega)]; rfl
     · simp only; rw [take_snoc hn, encL_append, hei]; simp only [Option.bind_some, encL_one]; exact hs4
   · rintro ch w4 ⟨rfl, hs4, s4, O4, f4, hw4, hn1, hn2⟩ a ha
     have f34 : Fr Oi wi O4 w4 := (f3.drop (fun _ h => h.elim)).trans f4
     refine bP (tP (tP (bP (pP ha ⟨rfl, encL_none hn hei hs4, s4, O4, fi.trans f34, hw4, ?_, hn2⟩))))
     have := (encL_use _ _ _ hei (by omega)).2
     rw [this] at hn1; exact hn1
 · have hge : i = l.length := by simp at hf; omega
   subst hge
   refine post_end0 rfl ha ⟨rfl, si, Oi, ?_, fi, hwi⟩
   rw [List.take_length] at hei; exact hei
theorem c208 {w0 : World} {S : Nat → Prop} {p most long : Nat} {l : List T} (h : ∀ t ∈ l, WEnc w0 S p most long 209 (.st .expr) t) : WList w0 S p most long 208 209 (.st .expr) l := by
 intro cs hr s O w hw hu
 obtain ⟨g, cap, hv, hml, hg⟩ := list_val hr
 rw [hv, enc_list]
 have hll := T.wts_len l
 obtain ⟨z, hz0, hzs⟩ : ∃ z, (∀ w, (zeroValue 66).run Tryz.prog w = .ok z w) ∧ z.cells.size = 16 := ⟨_, Tryz.zeroValue66, rfl⟩
 have hul : l.length < 18446744073709551616 := by omega
 obtain ⟨vb, hvb, hrb, hput⟩ := hw.put
 refine cW 29 Tryz.func208 rfl rfl rfl ?_
 refine W.sq (W.rg (WL.mv rfl rfl (WL.mv rfl rfl (WL.nc rfl rfl (WL.fa rfl (field185_0 _ _ _) rfl (WL.ld rfl (load1 ty22 hvb) rfl (WL.mv rfl rfl ?_)))))))
 refine WL.len rfl (lS Tryz.underlying64) rfl (WL.convert rfl (conv_int Tryz.runUnderlying3 Tryz.runUnderlying164) rfl ?_)
 rw [wrap_u64 (by omega) (by omega)]
 refine WL.cl Tryz.call97 rfl rfl (c97 hrb hul (by have := num_len10 hul; simp only [WS.use] at hu; omega)) ?_ nop
 rintro v' w1 ⟨r1, f1⟩
 obtain ⟨w2, O2, hst, f2, hw2⟩ := hput v' w1 _ f1 r1
 refine WL.nc rfl rfl (WL.fa rfl (field185_0 _ _ _) rfl (WL.so rfl rfl hst (WL.kp [(0, ptr p), (1, .slice g l.length cap), (2, .func (.func 209) #[ptr p] #[])] ⟨rfl, rfl, rfl, trivial⟩ ?_)))
 refine W.sq (W.rg (WL.mv rfl rfl (WL.len rfl (lS Tryz.underlying64) rfl (WL.mv rfl rfl (WL.nx ?_)))))
 have hsu := WS.num_use (s := s) hul
 refine W.bk (W.loop (ι := Nat × WS × (Nat → Prop)) (fun i => [(0, ptr p), (2, .func (.func 209) #[ptr p] #[]), (19, .slice g l.length cap), (20, .int .i64 l.length), (21, .int .i64 i.1)])
  (fun i w' => i.1 ≤ l.length ∧ WSt w0 S p most long i.2.1 i.2.2 w' ∧ Fr O w i.2.2 w' ∧ encL most long (l.take i.1) (s.num l.length) = some i.2.1) (fun i => l.length - i.1)
  (0, s.num l.length, O2) ⟨rfl, rfl, rfl, rfl, rfl, trivial⟩ ⟨Nat.zero_le _, hw2, f2, rfl⟩ ?_)
 rintro ⟨i, si, Oi⟩ wi ⟨hi, hwi, fi, hei⟩
 simp only at hi hwi fi hei ⊢
 refine W.sq (W.rg (WL.bi rfl rfl rfl rfl (WL.nx (W.sq ?_))))
 refine W.cond rfl (fun ht => W.skip fun a ha => tN ?_) (fun hf => W.exit fun a ha => tE (tE (eH ?_)))
 · have hlt : i < l.length := by simp at ht; omega
   obtain ⟨t, hn⟩ : ∃ t, l[i]? = some t := ⟨_, List.getElem?_eq_getElem hlt⟩
   rcases hg with ⟨_, rfl⟩ | ⟨b, o, rfl, hS, hb, hrl⟩
   · simp at hlt
   obtain ⟨ds, hat, hlen, hrep⟩ := RepL.get hrl hn
   have hlen' : ds.length = 16 := hlen
   have hone := Rep.one _ _ _ hrep
   have hat2 := At.input hwi hS hb hat
   have hwt := T.wts_take hn
   have hui := (encL_use _ _ _ hei (by omega)).1
   refine (W.sq (W.bk (W.sq (W.rg (WL.ix rfl rfl (indexSlice Tryz.underlying64 (iy66 : IsTy Tryz.prog 66 true 16) (by omega) (by omega)) rfl ?_))))) a ha
   rw [Int.toNat_natCast]
   refine WL.ld rfl (loadN iy66 hlen hat2) rfl (WL.alloc (hz0 _) rfl ?_)
   obtain ⟨w3, hst3, hb3, f3, hsz3⟩ := new_var (P := Tryz.prog) (w := wi) (v := .agg ds.toArray) (iy66 : IsTy Tryz.prog 66 true 16) hzs hlen rfl hone.2
   have hw3 := hwi.other f3 (fun _ h => h.elim)
   refine WL.so rfl rfl hst3 (WL.nx ?_)
   have hat3 := hb3.at_ 0 16
   rw [List.drop_zero, List.take_of_length_le (Nat.le_of_eq hlen')] at hat3
   refine W.rg (WL.mv rfl rfl (WL.ld rfl (loadN iy66 hlen hat3) rfl ?_))
   have hcall := h t (List.mem_of_getElem? hn) ds hrep si Oi w3 hw3 (by omega)
   refine WL.callv rfl Tryz.call209 rfl rfl hcall ?_ ?_
   · rintro v w4 ⟨rfl, s4, O4, hs4, f4, hw4⟩
     refine WL.nil fun a ha => bN (tN ((W.rg (WL.bi rfl rfl rfl rfl (WL.mv rfl rfl (WL.nil fun a ha => tN ?_)))) a ha))
     have f34 : Fr Oi wi O4 w4 := (f3.drop (fun _ h => h.elim)).trans f4
     refine ⟨(i + 1, s4, O4), ha.weak ⟨rfl, rfl, rfl, rfl, ?_, trivial⟩, ⟨hlt, hw4, fi.trans f34, ?_⟩, by simp only; omega⟩
     · show some (Value.int .i64 (IntKind.i64.wrap ((i : Int) + 1))) = some (Value.int .i64 ((i + 1 : Nat) : Int))
       rw [wrap_i64 (by unfold isInt; omega)]; rfl
     · simp only; rw [take_snoc hn, encL_append, hei]; simp only [Option.bind_some, encL_one]; exact hs4
   · rintro ch w4 ⟨rfl, hs4, s4, O4, f4, hw4, hn1, hn2⟩ a ha
     have f34 : Fr Oi wi O4 w4 := (f3.drop (fun _ h => h.elim)).trans f4
     refine bP (tP (tP (bP (pP ha ⟨rfl, encL_none hn hei hs4, s4, O4, fi.trans f34, hw4, ?_, hn2⟩))))
     have := (encL_use _ _ _ hei (by omega)).2
     rw [this] at hn1; exact hn1
 · have hge : i = l.length := by simp at hf; omega
   subst hge
   refine post_end0 rfl ha ⟨rfl, si, Oi, ?_, fi, hwi⟩
   rw [List.take_length] at hei; exact hei
theorem c210 {w0 : World} {S : Nat → Prop} {p most long : Nat} {l : List T} (h : ∀ t ∈ l, WEnc w0 S p most long 151 (.str) t) : WList w0 S p most long 210 151 (.str) l := by
 intro cs hr s O w hw hu
 obtain ⟨g, cap, hv, hml, hg⟩ := list_val hr
 rw [hv, enc_list]
 have hll := T.wts_len l
 have hul : l.length < 18446744073709551616 := by omega
 obtain ⟨vb, hvb, hrb, hput⟩ := hw.put
 refine cW 29 Tryz.func210 rfl rfl rfl ?_
 refine W.sq (W.rg (WL.mv rfl rfl (WL.mv rfl rfl (WL.nc rfl rfl (WL.fa rfl (field185_0 _ _ _) rfl (WL.ld rfl (load1 ty22 hvb) rfl (WL.mv rfl rfl ?_)))))))
 refine WL.len rfl (lS Tryz.underlying44) rfl (WL.convert rfl (conv_int Tryz.runUnderlying3 Tryz.runUnderlying164) rfl ?_)
 rw [wrap_u64 (by omega) (by omega)]
 refine WL.cl Tryz.call97 rfl rfl (c97 hrb hul (by have := num_len10 hul; simp only [WS.use] at hu; omega)) ?_ nop
 rintro v' w1 ⟨r1, f1⟩
 obtain ⟨w2, O2, hst, f2, hw2⟩ := hput v' w1 _ f1 r1
 refine WL.nc rfl rfl (WL.fa rfl (field185_0 _ _ _) rfl (WL.so rfl rfl hst (WL.kp [(0, ptr p), (1, .slice g l.length cap), (2, .func (.func 151) #[ptr p] #[])] ⟨rfl, rfl, rfl, trivial⟩ ?_)))
 refine W.sq (W.rg (WL.mv rfl rfl (WL.len rfl (lS Tryz.underlying44) rfl (WL.mv rfl rfl (WL.nx ?_)))))
 have hsu := WS.num_use (s := s) hul
 refine W.bk (W.loop (ι := Nat × WS × (Nat → Prop)) (fun i => [(0, ptr p), (2, .func (.func 151) #[ptr p] #[]), (19, .slice g l.length cap), (20, .int .i64 l.length), (21, .int .i64 i.1)])
  (fun i w' => i.1 ≤ l.length ∧ WSt w0 S p most long i.2.1 i.2.2 w' ∧ Fr O w i.2.2 w' ∧ encL most long (l.take i.1) (s.num l.length) = some i.2.1) (fun i => l.length - i.1)
  (0, s.num l.length, O2) ⟨rfl, rfl, rfl, rfl, rfl, trivial⟩ ⟨Nat.zero_le _, hw2, f2, rfl⟩ ?_)
 rintro ⟨i, si, Oi⟩ wi ⟨hi, hwi, fi, hei⟩
 simp only at hi hwi fi hei ⊢
 refine W.sq (W.rg (WL.bi rfl rfl rfl rfl (WL.nx (W.sq ?_))))
 refine W.cond rfl (fun ht => W.skip fun a ha => tN ?_) (fun hf => W.exit fun a ha => tE (tE (eH ?_)))
 · have hlt : i < l.length := by simp at ht; omega
   obtain ⟨t, hn⟩ : ∃ t, l[i]? = some t := ⟨_, List.getElem?_eq_getElem hlt⟩
   rcases hg with ⟨_, rfl⟩ | ⟨b, o, rfl, hS, hb, hrl⟩
   · simp at hlt
   obtain ⟨ds, hat, hlen, hrep⟩ := RepL.get hrl hn
   have hlen' : ds.length = 1 := hlen
   have hat2 := At.input hwi hS hb hat
   have hwt := T.wts_take hn
   have hui := (encL_use _ _ _ hei (by omega)).1
   refine (W.sq (W.bk (W.sq (W.rg (WL.ix rfl rfl (indexSlice Tryz.underlying44 (iy9 : IsTy Tryz.prog 9 false 1) (by omega) (by omega)) rfl ?_))))) a ha
   rw [Int.toNat_natCast]
   obtain ⟨x, rfl⟩ := List.length_eq_one_iff.1 hlen'
   refine WL.ld rfl (load1 (iy9 : IsTy Tryz.prog 9 false 1) (hat2 0 x rfl)) rfl (WL.an rfl rfl (WL.nx ?_))
   refine W.rg (WL.mv rfl rfl (WL.mv rfl rfl ?_))
   have hcall := h t (List.mem_of_getElem? hn) [x] hrep si Oi wi hwi (by omega)
   refine WL.callv rfl Tryz.call151 rfl rfl hcall ?_ ?_
   · rintro v w4 ⟨rfl, s4, O4, hs4, f4, hw4⟩
     refine WL.nil fun a ha => bN (tN ((W.rg (WL.bi rfl rfl rfl rfl (WL.mv rfl rfl (WL.nil fun a ha => tN ?_)))) a ha))
     refine ⟨(i + 1, s4, O4), ha.weak ⟨rfl, rfl, rfl, rfl, ?_, trivial⟩, ⟨hlt, hw4, fi.trans f4, ?_⟩, by simp only; omega⟩
     · show some (Value.int .i64 (IntKind.i64.wrap ((i : Int) + 1))) = some (Value.int .i64 ((i + 1 : Nat) : Int))
       rw [wrap_i64 (by unfold isInt; omega)]; rfl
     · simp only; rw [take_snoc hn, encL_append, hei]; simp only [Option.bind_some, encL_one]; exact hs4
   · rintro ch w4 ⟨rfl, hs4, s4, O4, f4, hw4, hn1, hn2⟩ a ha
     refine bP (tP (tP (bP (pP ha ⟨rfl, encL_none hn hei hs4, s4, O4, fi.trans f4, hw4, ?_, hn2⟩))))
     have := (encL_use _ _ _ hei (by omega)).2
     rw [this] at hn1; exact hn1
 · have hge : i = l.length := by simp at hf; omega
   subst hge
   refine post_end0 rfl ha ⟨rfl, si, Oi, ?_, fi, hwi⟩
   rw [List.take_length] at hei; exact hei
theorem c211 {w0 : World} {S : Nat → Prop} {p most long : Nat} {l : List T} (h : ∀ t ∈ l, WEnc w0 S p most long 212 (.st .param) t) : WList w0 S p most long 211 212 (.st .param) l := by
 intro cs hr s O w hw hu
 obtain ⟨g, cap, hv, hml, hg⟩ := list_val hr
 rw [hv, enc_list]
 have hll := T.wts_len l
 obtain ⟨z, hz0, hzs⟩ : ∃ z, (∀ w, (zeroValue 216).run Tryz.prog w = .ok z w) ∧ z.cells.size = 24 := ⟨_, Tryz.zeroValue216, rfl⟩
 have hul : l.length < 18446744073709551616 := by omega
 obtain ⟨vb, hvb, hrb, hput⟩ := hw.put
 refine cW 29 Tryz.func211 rfl rfl rfl ?_
 refine W.sq (W.rg (WL.mv rfl rfl (WL.mv rfl rfl (WL.nc rfl rfl (WL.fa rfl (field185_0 _ _ _) rfl (WL.ld rfl (load1 ty22 hvb) rfl (WL.mv rfl rfl ?_)))))))
 refine WL.len rfl (lS Tryz.underlying68) rfl (WL.convert rfl (conv_int Tryz.runUnderlying3 Tryz.runUnderlying164) rfl ?_)
 rw [wrap_u64 (by omega) (by omega)]
 refine WL.cl Tryz.call97 rfl rfl (c97 hrb hul (by have := num_len10 hul; simp only [WS.use] at hu; omega)) ?_ nop
 rintro v' w1 ⟨r1, f1⟩
 obtain ⟨w2, O2, hst, f2, hw2⟩ := hput v' w1 _ f1 r1
 refine WL.nc rfl rfl (WL.fa rfl (field185_0 _ _ _) rfl (WL.so rfl rfl hst (WL.kp [(0, ptr p), (1, .slice g l.length cap), (2, .func (.func 212) #[ptr p] #[])] ⟨rfl, rfl, rfl, trivial⟩ ?_)))
 refine W.sq (W.rg (WL.mv rfl rfl (WL.len rfl (lS Tryz.underlying68) rfl (WL.mv rfl rfl (WL.nx ?_)))))
 have hsu := WS.num_use (s := s) hul
 refine W.bk (W.loop (ι := Nat × WS × (Nat → Prop)) (fun i => [(0, ptr p), (2, .func (.func 212) #[ptr p] #[]), (19, .slice g l.length cap), (20, .int .i64 l.length), (21, .int .i64 i.1)])
  (fun i w' => i.1 ≤ l.length ∧ WSt w0 S p most long i.2.1 i.2.2 w' ∧ Fr O w i.2.2 w' ∧ encL most long (l.take i.1) (s.num l.length) = some i.2.1) (fun i => l.length - i.1)
  (0, s.num l.length, O2) ⟨rfl, rfl, rfl, rfl, rfl, trivial⟩ ⟨Nat.zero_le _, hw2, f2, rfl⟩ ?_)
 rintro ⟨i, si, Oi⟩ wi ⟨hi, hwi, fi, hei⟩
 simp only at hi hwi fi hei ⊢
 refine W.sq (W.rg (WL.bi rfl rfl rfl rfl (WL.nx (W.sq ?_))))
 refine W.cond rfl (fun ht => W.skip fun a ha => tN ?_) (fun hf => W.exit fun a ha => tE (tE (eH ?_)))
 · have hlt : i < l.length := by simp at ht; omega
   obtain ⟨t, hn⟩ : ∃ t, l[i]? = some t := ⟨_, List.getElem?_eq_getElem hlt⟩
   rcases hg with ⟨_, rfl⟩ | ⟨b, o, rfl, hS, hb, hrl⟩
   · simp at hlt
   obtain ⟨ds, hat, hlen, hrep⟩ := RepL.get hrl hn
   have hlen' : ds.length = 24 := hlen
   have hone := Rep.one _ _ _ hrep
   have hat2 := At.input hwi hS hb hat
   have hwt := T.wts_take hn
   have hui := (encL_use _ _ _ hei (by omega)).1
   refine (W.sq (W.bk (W.sq (W.rg (WL.ix rfl rfl (indexSlice Tryz.underlying68 (iy216 : IsTy Tryz.prog 216 true 24) (by omega) (by omega)) rfl ?_))))) a ha
   rw [Int.toNat_natCast]
   refine WL.ld rfl (loadN iy216 hlen hat2) rfl (WL.alloc (hz0 _) rfl ?_)
   obtain ⟨w3, hst3, hb3, f3, hsz3⟩ := new_var (P := Tryz.prog) (w := wi) (v := .agg ds.toArray) (iy216 : IsTy Tryz.prog 216 true 24) hzs hlen rfl hone.2
   have hw3 := hwi.other f3 (fun _ h => h.elim)
   refine WL.so rfl rfl hst3 (WL.nx ?_)
   have hat3 := hb3.at_ 0 24
   rw [List.drop_zero, List.take_of_length_le (Nat.le_of_eq hlen')] at hat3
   refine W.rg (WL.mv rfl rfl (WL.ld rfl (loadN iy216 hlen hat3) rfl ?_))
   have hcall := h t (List.mem_of_getElem? hn) ds hrep si Oi w3 hw3 (by omega)
   refine WL.callv rfl Tryz.call212 rfl rfl hcall ?_ ?_
   · rintro v w4 ⟨rfl, s4, O4, hs4, f4, hw4⟩
     refine WL.nil fun a ha => bN (tN ((W.rg (WL.bi rfl rfl rfl rfl (WL.mv rfl rfl (WL.nil fun a ha => tN ?_)))) a ha))
     have f34 : Fr Oi wi O4 w4 := (f3.drop (fun _ h => h.elim)).trans f4
     refine ⟨(i + 1, s4, O4), ha.weak ⟨rfl, rfl, rfl, rfl, ?_, trivial⟩, ⟨hlt, hw4, fi.trans f34, ?_⟩, by simp only; omega⟩
     · show some (Value.int .i64 (IntKind.i64.wrap ((i : Int) + 1))) = some (Value.int .i64 ((i + 1 : Nat) : Int))
       rw [wrap_i64 (by unfold isInt; omega)]; rfl
     · simp only; rw [take_snoc hn, encL_append, hei]; simp only [Option.bind_some, encL_one]; exact hs4
   · rintro ch w4 ⟨rfl, hs4, s4, O4, f4, hw4, hn1, hn2⟩ a ha
     have f34 : Fr Oi wi O4 w4 := (f3.drop (fun _ h => h.elim)).trans f4
     refine bP (tP (tP (bP (pP ha ⟨rfl, encL_none hn hei hs4, s4, O4, fi.trans f34, hw4, ?_, hn2⟩))))
     have := (encL_use _ _ _ hei (by omega)).2
     rw [this] at hn1; exact hn1
 · have hge : i = l.length := by simp at hf; omega
   subst hge
   refine post_end0 rfl ha ⟨rfl, si, Oi, ?_, fi, hwi⟩
   rw [List.take_length] at hei; exact hei
theorem c213 {w0 : World} {S : Nat → Prop} {p most long : Nat} {l : List T} (h : ∀ t ∈ l, WEnc w0 S p most long 214 (.st .instr) t) : WList w0 S p most long 213 214 (.st .instr) l := by
 intro cs hr s O w hw hu
 obtain ⟨g, cap, hv, hml, hg⟩ := list_val hr
 rw [hv, enc_list]
 have hll := T.wts_len l
 obtain ⟨z, hz0, hzs⟩ : ∃ z, (∀ w, (zeroValue 72).run Tryz.prog w = .ok z w) ∧ z.cells.size = 51 := ⟨_, Tryz.zeroValue72, rfl⟩
 have hul : l.length < 18446744073709551616 := by omega
 obtain ⟨vb, hvb, hrb, hput⟩ := hw.put
 refine cW 29 Tryz.func213 rfl rfl rfl ?_
 refine W.sq (W.rg (WL.mv rfl rfl (WL.mv rfl rfl (WL.nc rfl rfl (WL.fa rfl (field185_0 _ _ _) rfl (WL.ld rfl (load1 ty22 hvb) rfl (WL.mv rfl rfl ?_)))))))
 refine WL.len rfl (lS Tryz.underlying56) rfl (WL.convert rfl (conv_int Tryz.runUnderlying3 Tryz.runUnderlying164) rfl ?_)
 rw [wrap_u64 (by omega) (by omega)]
 refine WL.cl Tryz.call97 rfl rfl (c97 hrb hul (by have := num_len10 hul; simp only [WS.use] at hu; omega)) ?_ nop
 rintro v' w1 ⟨r1, f1⟩
 obtain ⟨w2, O2, hst, f2, hw2⟩ := hput v' w1 _ f1 r1
 refine WL.nc rfl rfl (WL.fa rfl (field185_0 _ _ _) rfl (WL.so rfl rfl hst (WL.kp [(0, ptr p), (1, .slice g l.length cap), (2, .func (.func 214) #[ptr p] #[])] ⟨rfl, rfl, rfl, trivial⟩ ?_)))
 refine W.sq (W.rg (WL.mv rfl rfl (WL.len rfl (lS Tryz.underlying56) rfl (WL.mv rfl rfl (WL.nx ?_)))))
 have hsu := WS.num_use (s := s) hul
 refine W.bk (W.loop (ι := Nat × WS × (Nat → Prop)) (fun i => [(0, ptr p), (2, .func (.func 214) #[ptr p] #[]), (19, .slice g l.length cap), (20, .int .i64 l.length), (21, .int .i64 i.1)])
  (fun i w' => i.1 ≤ l.length ∧ WSt w0 S p most long i.2.1 i.2.2 w' ∧ Fr O w i.2.2 w' ∧ encL most long (l.take i.1) (s.num l.length) = some i.2.1) (fun i => l.length - i.1)
  (0, s.num l.length, O2) ⟨rfl, rfl, rfl, rfl, rfl, trivial⟩ ⟨Nat.zero_le _, hw2, f2, rfl⟩ ?_)
 rintro ⟨i, si, Oi⟩ wi ⟨hi, hwi, fi, hei⟩
 simp only at hi hwi fi hei ⊢
 refine W.sq (W.rg (WL.bi rfl rfl rfl rfl (WL.nx (W.sq ?_))))
 refine W.cond rfl (fun ht => W.skip fun a ha => tN ?_) (fun hf => W.exit fun a ha => tE (tE (eH ?_)))
 · have hlt : i < l.length := by simp at ht; omega
   obtain ⟨t, hn⟩ : ∃ t, l[i]? = some t := ⟨_, List.getElem?_eq_getElem hlt⟩
   rcases hg with ⟨_, rfl⟩ | ⟨b, o, rfl, hS, hb, hrl⟩
   · simp at hlt
   obtain ⟨ds, hat, hlen, hrep⟩ := RepL.get hrl hn
   have hlen' : ds.length = 51 := hlen
   have hone := Rep.one _ _ _ hrep
   have hat2 := At.input hwi hS hb hat
   have hwt := T.wts_take hn
   have hui := (encL_use _ _ _ hei (by omega)).1
   refine (W.sq (W.bk (W.sq (W.rg (WL.ix rfl rfl (indexSlice Tryz.underlying56 (iy72 : IsTy Tryz.prog 72 true 51) (by omega) (by omega)) rfl ?_))))) a ha
   rw [Int.toNat_natCast]
   refine WL.ld rfl (loadN iy72 hlen hat2) rfl (WL.alloc (hz0 _) rfl ?_)
   obtain ⟨w3, hst3, hb3, f3, hsz3⟩ := new_var (P := Tryz.prog) (w := wi) (v := .agg ds.toArray) (iy72 : IsTy Tryz.prog 72 true 51) hzs hlen rfl hone.2
   have hw3 := hwi.other f3 (fun _ h => h.elim)
   refine WL.so rfl rfl hst3 (WL.nx ?_)
   have hat3 := hb3.at_ 0 51
   rw [List.drop_zero, List.take_of_length_le (Nat.le_of_eq hlen')] at hat3
   refine W.rg (WL.mv rfl rfl (WL.ld rfl (loadN iy72 hlen hat3) rfl ?_))
   have hcall := h t (List.mem_of_getElem? hn) ds hrep si Oi w3 hw3 (by omega)
   refine WL.callv rfl Tryz.call214 rfl rfl hcall ?_ ?_
   · rintro v w4 ⟨rfl, s4, O4, hs4, f4, hw4⟩
     refine WL.nil fun a ha => bN (tN ((W.rg (WL.bi rfl rfl rfl rfl (WL.mv rfl rfl (WL.nil fun a ha => tN ?_)))) a ha))
     have f34 : Fr Oi wi O4 w4 := (f3.drop (fun _ h => h.elim)).trans f4
     refine ⟨(i + 1, s4, O4), ha.weak ⟨rfl, rfl, rfl, rfl, ?_, trivial⟩, ⟨hlt, hw4, fi.trans f34, ?_⟩, by simp only; omega⟩
     · show some (Value.int .i64 (IntKind.i64.wrap ((i : Int) + 1))) = some (Value.int .i64 ((i + 1 : Nat) : Int))
       rw [wrap_i64 (by unfold isInt; omega)]; rfl
     · simp only; rw [take_snoc hn, encL_append, hei]; simp only [Option.bind_some, encL_one]; exact hs4
   · rintro ch w4 ⟨rfl, hs4, s4, O4, f4, hw4, hn1, hn2⟩ a ha
     have f34 : Fr Oi wi O4 w4 := (f3.drop (fun _ h => h.elim)).trans f4
     refine bP (tP (tP (bP (pP ha ⟨rfl, encL_none hn hei hs4, s4, O4, fi.trans f34, hw4, ?_, hn2⟩))))
     have := (encL_use _ _ _ hei (by omega)).2
     rw [this] at hn1; exact hn1
 · have hge : i = l.length := by simp at hf; omega
   subst hge
   refine post_end0 rfl ha ⟨rfl, si, Oi, ?_, fi, hwi⟩
   rw [List.take_length] at hei; exact hei
theorem c216 {w0 : World} {S : Nat → Prop} {p most long : Nat} {l : List T} (h : ∀ t ∈ l, WEnc w0 S p most long 217 (.st .rule) t) : WList w0 S p most long 216 217 (.st .rule) l := by
 intro cs hr s O w hw hu
 obtain ⟨g, cap, hv, hml, hg⟩ := list_val hr
 rw [hv, enc_list]
 have hll := T.wts_len l
 obtain ⟨z, hz0, hzs⟩ : ∃ z, (∀ w, (zeroValue 182).run Tryz.prog w = .ok z w) ∧ z.cells.size = 18 := ⟨_, Tryz.zeroValue182, rfl⟩
 have hul : l.length < 18446744073709551616 := by omega
 obtain ⟨vb, hvb, hrb, hput⟩ := hw.put
 refine cW 29 Tryz.func216 rfl rfl rfl ?_
 refine W.sq (W.rg (WL.mv rfl rfl (WL.mv rfl rfl (WL.nc rfl rfl (WL.fa rfl (field185_0 _ _ _) rfl (WL.ld rfl (load1 ty22 hvb) rfl (WL.mv rfl rfl ?_)))))))
 refine WL.len rfl (lS Tryz.underlying149) rfl (WL.convert rfl (conv_int Tryz.runUnderlying3 Tryz.runUnderlying164) rfl ?_)
 rw [wrap_u64 (by omega) (by omega)]
 refine WL.cl Tryz.call97 rfl rfl (c97 hrb hul (by have := num_len10 hul; simp only [WS.use] at hu; omega)) ?_ nop
 rintro v' w1 ⟨r1, f1⟩
 obtain ⟨w2, O2, hst, f2, hw2⟩ := hput v' w1 _ f1 r1
 refine WL.nc rfl rfl (WL.fa rfl (field185_0 _ _ _) rfl (WL.so rfl rfl hst (WL.kp [(0, ptr p), (1, .slice g l.length cap), (2, .func (.func 217) #[ptr p] #[])] ⟨rfl, rfl, rfl, trivial⟩ ?_)))
 refine W.sq (W.rg (WL.mv rfl rfl (WL.len rfl (lS Tryz.underlying149) rfl (WL.mv rfl rfl (WL.nx ?_)))))
 have hsu := WS.num_use (s := s) hul
 refine W.bk (W.loop (ι := Nat × WS × (Nat → Prop)) (fun i => [(0, ptr p), (2, .func (.func 217) #[ptr p] #[]), (19, .slice g l.length cap), (20, .int .i64 l.length), (21, .int .i64 i.1)])
  (fun i w' => i.1 ≤ l.length ∧ WSt w0 S p most long i.2.1 i.2.2 w' ∧ Fr O w i.2.2 w' ∧ encL most long (l.take i.1) (s.num l.length) = some i.2.1) (fun i => l.length - i.1)
  (0, s.num l.length, O2) ⟨rfl, rfl, rfl, rfl, rfl, trivial⟩ ⟨Nat.zero_le _, hw2, f2, rfl⟩ ?_)
 rintro ⟨i, si, Oi⟩ wi ⟨hi, hwi, fi, hei⟩
 simp only at hi hwi fi hei ⊢
 refine W.sq (W.rg (WL.bi rfl rfl rfl rfl (WL.nx (W.sq ?_))))
 refine W.cond rfl (fun ht => W.skip fun a ha => tN ?_) (fun hf => W.exit fun a ha => tE (tE (eH ?_)))
 · have hlt : i < l.length := by simp at ht; omega
   obtain ⟨t, hn⟩ : ∃ t, l[i]? = some t := ⟨_, List.getElem?_eq_getElem hlt⟩
   rcases hg with ⟨_, rfl⟩ | ⟨b, o, rfl, hS, hb, hrl⟩
   · simp at hlt
   obtain ⟨ds, hat, hlen, hrep⟩ := RepL.get hrl hn
   have hlen' : ds.length = 18 := hlen
   have hone := Rep.one _ _ _ hrep
   have hat2 := At.input hwi hS hb hat
   have hwt := T.wts_take hn
   have hui := (encL_use _ _ _ hei (by omega)).1
   refine (W.sq (W.bk (W.sq (W.rg (WL.ix rfl rfl (indexSlice Tryz.underlying149 (iy182 : IsTy Tryz.prog 182 true 18) (by omega) (by omega)) rfl ?_))))) a ha
   rw [Int.toNat_natCast]
   refine WL.ld rfl (loadN iy182 hlen hat2) rfl (WL.alloc (hz0 _) rfl ?_)
   obtain ⟨w3, hst3, hb3, f3, hsz3⟩ := new_var (P := Tryz.prog) (w := wi) (v := .agg ds.toArray) (iy182 : IsTy Tryz.prog 182 true 18) hzs hlen rfl hone.2
   have hw3 := hwi.other f3 (fun _ h => h.elim)
   refine WL.so rfl rfl hst3 (WL.nx ?_)
   have hat3 := hb3.at_ 0 18
   rw [List.drop_zero, List.take_of_length_le (Nat.le_of_eq hlen')] at hat3
   refine W.rg (WL.mv rfl rfl (WL.ld rfl (loadN iy182 hlen hat3) rfl ?_))
   have hcall := h t (List.mem_of_getElem? hn) ds hrep si Oi w3 hw3 (by omega)
   refine WL.callv rfl Tryz.call217 rfl rfl hcall ?_ ?_
   · rintro v w4 ⟨rfl, s4, O4, hs4, f4, hw4⟩
     refine WL.nil fun a ha => bN (tN ((W.rg (WL.bi rfl rfl rfl rfl (WL.mv rfl rfl (WL.nil fun a ha => tN ?_)))) a ha))
     have f34 : Fr Oi wi O4 w4 := (f3.drop (fun _ h => h.elim)).trans f4
     refine ⟨(i + 1, s4, O4), ha.weak ⟨rfl, rfl, rfl, rfl, ?_, trivial⟩, ⟨hlt, hw4, fi.trans f34, ?_⟩, by simp only; omega⟩
     · show some (Value.int .i64 (IntKind.i64.wrap ((i : Int) + 1))) = some (Value.int .i64 ((i + 1 : Nat) : Int))
       rw [wrap_i64 (by unfold isInt; omega)]; rfl
     · simp only; rw [take_snoc hn, encL_append, hei]; simp only [Option.bind_some, encL_one]; exact hs4
   · rintro ch w4 ⟨rfl, hs4, s4, O4, f4, hw4, hn1, hn2⟩ a ha
     have f34 : Fr Oi wi O4 w4 := (f3.drop (fun _ h => h.elim)).trans f4
     refine bP (tP (tP (bP (pP ha ⟨rfl, encL_none hn hei hs4, s4, O4, fi.trans f34, hw4, ?_, hn2⟩))))
     have := (encL_use _ _ _ hei (by omega)).2
     rw [this] at hn1; exact hn1
 · have hge : i = l.length := by simp at hf; omega
   subst hge
   refine post_end0 rfl ha ⟨rfl, si, Oi, ?_, fi, hwi⟩
   rw [List.take_length] at hei; exact hei
theorem c219 {w0 : World} {S : Nat → Prop} {p most long : Nat} {l : List T} (h : ∀ t ∈ l, WEnc w0 S p most long 220 (.st .swap) t) : WList w0 S p most long 219 220 (.st .swap) l := by
 intro cs hr s O w hw hu
 obtain ⟨g, cap, hv, hml, hg⟩ := list_val hr
 rw [hv, enc_list]
 have hll := T.wts_len l
 obtain ⟨z, hz0, hzs⟩ : ∃ z, (∀ w, (zeroValue 170).run Tryz.prog w = .ok z w) ∧ z.cells.size = 2 := ⟨_, Tryz.zeroValue170, rfl⟩
 have hul : l.length < 18446744073709551616 := by omega
 obtain ⟨vb, hvb, hrb, hput⟩ := hw.put
 refine cW 29 Tryz.func219 rfl rfl rfl ?_
 refine W.sq (W.rg (WL.mv rfl rfl (WL.mv rfl rfl (WL.nc rfl rfl (WL.fa rfl (field185_0 _ _ _) rfl (WL.ld rfl (load1 ty22 hvb) rfl (WL.mv rfl rfl ?_)))))))
 refine WL.len rfl (lS Tryz.underlying160) rfl (WL.convert rfl (conv_int Tryz.runUnderlying3 Tryz.runUnderlying164) rfl ?_)
 rw [wrap_u64 (by omega) (by omega)]
 refine WL.cl Tryz.call97 rfl rfl (c97 hrb hul (by have := num_len10 hul; simp only [WS.use] at hu; omega)) ?_ nop
 rintro v' w1 ⟨r1, f1⟩
 obtain ⟨w2, O2, hst, f2, hw2⟩ := hput v' w1 _ f1 r1
 refine WL.nc rfl rfl (WL.fa rfl (field185_0 _ _ _) rfl (WL.so rfl rfl hst (WL.kp [(0, ptr p), (1, .slice g l.length cap), (2, .func (.func 220) #[ptr p] #[])] ⟨rfl, rfl, rfl, trivial⟩ ?_)))
 refine W.sq (W.rg (WL.mv rfl rfl (WL.len rfl (lS Tryz.underlying160) rfl (WL.mv rfl rfl (WL.nx ?_)))))
 have hsu := WS.num_use (s := s) hul
 refine W.bk (W.loop (ι := Nat × WS × (Nat → Prop)) (fun i => [(0, ptr p), (2, .func (.func 220) #[ptr p] #[]), (19, .slice g l.length cap), (20, .int .i64 l.length), (21, .int .i64 i.1)])
  (fun i w' => i.1 ≤ l.length ∧ WSt w0 S p most long i.2.1 i.2.2 w' ∧ Fr O w i.2.2 w' ∧ encL most long (l.take i.1) (s.num l.length) = some i.2.1) (fun i => l.length - i.1)
  (0, s.num l.length, O2) ⟨rfl, rfl, rfl, rfl, rfl, trivial⟩ ⟨Nat.zero_le _, hw2, f2, rfl⟩ ?_)
 rintro ⟨i, si, Oi⟩ wi ⟨hi, hwi, fi, hei⟩
 simp only at hi hwi fi hei ⊢
 refine W.sq (W.rg (WL.bi rfl rfl rfl rfl (WL.nx (W.sq ?_))))
 refine W.cond rfl (fun ht => W.skip fun a ha => tN ?_) (fun hf => W.exit fun a ha => tE (tE (eH ?_)))
 · have hlt : i < l.length := by simp at ht; omega
   obtain ⟨t, hn⟩ : ∃ t, l[i]? = some t := ⟨_, List.getElem?_eq_getElem hlt⟩
   rcases hg with ⟨_, rfl⟩ | ⟨b, o, rfl, hS, hb, hrl⟩
   · simp at hlt
   obtain ⟨ds, hat, hlen, hrep⟩ := RepL.get hrl hn
   have hlen' : ds.length = 2 := hlen
   have hone := Rep.one _ _ _ hrep
   have hat2 := At.input hwi hS hb hat
   have hwt := T.wts_take hn
   have hui := (encL_use _ _ _ hei (by omega)).1
   refine (W.sq (W.bk (W.sq (W.rg (WL.ix rfl rfl (indexSlice Tryz.underlying160 (iy170 : IsTy Tryz.prog 170 true 2) (by omega) (by omega)) rfl ?_))))) a ha
   rw [Int.toNat_natCast]
   refine WL.ld rfl (loadN iy170 hlen hat2) rfl (WL.alloc (hz0 _) rfl ?_)
   obtain ⟨w3, hst3, hb3, f3, hsz3⟩ := new_var (P := Tryz.prog) (w := wi) (v := .agg ds.toArray) (iy170 : IsTy Tryz.prog 170 true 2) hzs hlen rfl hone.2
   have hw3 := hwi.other f3 (fun _ h => h.elim)
   refine WL.so rfl rfl hst3 (WL.nx ?_)
   have hat3 := hb3.at_ 0 2
   rw [List.drop_zero, List.take_of_length_le (Nat.le_of_eq hlen')] at hat3
   refine W.rg (WL.mv rfl rfl (WL.ld rfl (loadN iy170 hlen hat3) rfl ?_))
   have hcall := h t (List.mem_of_getElem? hn) ds hrep si Oi w3 hw3 (by omega)
   refine WL.callv rfl Tryz.call220 rfl rfl hcall ?_ ?_
   · rintro v w4 ⟨rfl, s4, O4, hs4, f4, hw4⟩
     refine WL.nil fun a ha => bN (tN ((W.rg (WL.bi rfl rfl rfl rfl (WL.mv rfl rfl (WL.nil fun a ha => tN ?_)))) a ha))
     have f34 : Fr Oi wi O4 w4 := (f3.drop (fun _ h => h.elim)).trans f4
     refine ⟨(i + 1, s4, O4), ha.weak ⟨rfl, rfl, rfl, rfl, ?_, trivial⟩, ⟨hlt, hw4, fi.trans f34, ?_⟩, by simp only; omega⟩
     · show some (Value.int .i64 (IntKind.i64.wrap ((i : Int) + 1))) = some (Value.int .i64 ((i + 1 : Nat) : Int))
       rw [wrap_i64 (by unfold isInt; omega)]; rfl
     · simp only; rw [take_snoc hn, encL_append, hei]; simp only [Option.bind_some, encL_one]; exact hs4
   · rintro ch w4 ⟨rfl, hs4, s4, O4, f4, hw4, hn1, hn2⟩ a ha
     have f34 : Fr Oi wi O4 w4 := (f3.drop (fun _ h => h.elim)).trans f4
     refine bP (tP (tP (bP (pP ha ⟨rfl, encL_none hn hei hs4, s4, O4, fi.trans f34, hw4, ?_, hn2⟩))))
     have := (encL_use _ _ _ hei (by omega)).2
     rw [this] at hn1; exact hn1
 · have hge : i = l.length := by simp at hf; omega
   subst hge
   refine post_end0 rfl ha ⟨rfl, si, Oi, ?_, fi, hwi⟩
   rw [List.take_length] at hei; exact hei
theorem c247 {w0 : World} {S : Nat → Prop} {p most long : Nat} {l : List T} (h : ∀ t ∈ l, WEnc w0 S p most long 248 (.st .part) t) : WList w0 S p most long 247 248 (.st .part) l := by
 intro cs hr s O w hw hu
 obtain ⟨g, cap, hv, hml, hg⟩ := list_val hr
 rw [hv, enc_list]
 have hll := T.wts_len l
 obtain ⟨z, hz0, hzs⟩ : ∃ z, (∀ w, (zeroValue 282).run Tryz.prog w = .ok z w) ∧ z.cells.size = 18 := ⟨_, Tryz.zeroValue282, rfl⟩
 have hul : l.length < 18446744073709551616 := by omega
 obtain ⟨vb, hvb, hrb, hput⟩ := hw.put
 refine cW 29 Tryz.func247 rfl rfl rfl ?_
 refine W.sq (W.rg (WL.mv rfl rfl (WL.mv rfl rfl (WL.nc rfl rfl (WL.fa rfl (field185_0 _ _ _) rfl (WL.ld rfl (load1 ty22 hvb) rfl (WL.mv rfl rfl ?_)))))))
 refine WL.len rfl (lS Tryz.underlying57) rfl (WL.convert rfl (conv_int Tryz.runUnderlying3 Tryz.runUnderlying164) rfl ?_)
 rw [wrap_u64 (by omega) (by omega)]
 refine WL.cl Tryz.call97 rfl rfl (c97 hrb hul (by have := num_len10 hul; simp only [WS.use] at hu; omega)) ?_ nop
 rintro v' w1 ⟨r1, f1⟩
 obtain ⟨w2, O2, hst, f2, hw2⟩ := hput v' w1 _ f1 r1
 refine WL.nc rfl rfl (WL.fa rfl (field185_0 _ _ _) rfl (WL.so rfl rfl hst (WL.kp [(0, ptr p), (1, .slice g l.length cap), (2, .func (.func 248) #[ptr p] #[])] ⟨rfl, rfl, rfl, trivial⟩ ?_)))
 refine W.sq (W.rg (WL.mv rfl rfl (WL.len rfl (lS Tryz.underlying57) rfl (WL.mv rfl rfl (WL.nx ?_)))))
 have hsu := WS.num_use (s := s) hul
 refine W.bk (W.loop (ι := Nat × WS × (Nat → Prop)) (fun i => [(0, ptr p), (2, .func (.func 248) #[ptr p] #[]), (19, .slice g l.length cap), (20, .int .i64 l.length), (21, .int .i64 i.1)])
  (fun i w' => i.1 ≤ l.length ∧ WSt w0 S p most long i.2.1 i.2.2 w' ∧ Fr O w i.2.2 w' ∧ encL most long (l.take i.1) (s.num l.length) = some i.2.1) (fun i => l.length - i.1)
  (0, s.num l.length, O2) ⟨rfl, rfl, rfl, rfl, rfl, trivial⟩ ⟨Nat.zero_le _, hw2, f2, rfl⟩ ?_)
 rintro ⟨i, si, Oi⟩ wi ⟨hi, hwi, fi, hei⟩
 simp only at hi hwi fi hei ⊢
 refine W.sq (W.rg (WL.bi rfl rfl rfl rfl (WL.nx (W.sq ?_))))
 refine W.cond rfl (fun ht => W.skip fun a ha => tN ?_) (fun hf => W.exit fun a ha => tE (tE (eH ?_)))
 · have hlt : i < l.length := by simp at ht; omega
   obtain ⟨t, hn⟩ : ∃ t, l[i]? = some t := ⟨_, List.getElem?_eq_getElem hlt⟩
   rcases hg with ⟨_, rfl⟩ | ⟨b, o, rfl, hS, hb, hrl⟩
   · simp at hlt
   obtain ⟨ds, hat, hlen, hrep⟩ := RepL.get hrl hn
   have hlen' : ds.length = 18 := hlen
   have hone := Rep.one _ _ _ hrep
   have hat2 := At.input hwi hS hb hat
   have hwt := T.wts_take hn
   have hui := (encL_use _ _ _ hei (by omega)).1
   refine (W.sq (W.bk (W.sq (W.rg (WL.ix rfl rfl (indexSlice Tryz.underlying57 (iy282 : IsTy Tryz.prog 282 true 18) (by omega) (by omega)) rfl ?_))))) a ha
   rw [Int.toNat_natCast]
   refine WL.ld rfl (loadN iy282 hlen hat2) rfl (WL.alloc (hz0 _) rfl ?_)
   obtain ⟨w3, hst3, hb3, f3, hsz3⟩ := new_var (P := Tryz.prog) (w := wi) (v := .agg ds.toArray) (iy282 : IsTy Tryz.prog 282 true 18) hzs hlen rfl hone.2
   have hw3 := hwi.other f3 (fun _ h => h.elim)
   refine WL.so rfl rfl hst3 (WL.nx ?_)
   have hat3 := hb3.at_ 0 18
   rw [List.drop_zero, List.take_of_length_le (Nat.le_of_eq hlen')] at hat3
   refine W.rg (WL.mv rfl rfl (WL.ld rfl (loadN iy282 hlen hat3) rfl ?_))
   have hcall := h t (List.mem_of_getElem? hn) ds hrep si Oi w3 hw3 (by omega)
   refine WL.callv rfl Tryz.call248 rfl rfl hcall ?_ ?_
   · rintro v w4 ⟨rfl, s4, O4, hs4, f4, hw4⟩
     refine WL.nil fun a ha => bN (tN ((W.rg (WL.bi rfl rfl rfl rfl (WL.mv rfl rfl (WL.nil fun a ha => tN ?_)))) a ha))
     have f34 : Fr Oi wi O4 w4 := (f3.drop (fun _ h => h.elim)).trans f4
     refine ⟨(i + 1, s4, O4), ha.weak ⟨rfl, rfl, rfl, rfl, ?_, trivial⟩, ⟨hlt, hw4, fi.trans f34, ?_⟩, by simp only; omega⟩
     · show some (Value.int .i64 (IntKind.i64.wrap ((i : Int) + 1))) = some (Value.int .i64 ((i + 1 : Nat) : Int))
       rw [wrap_i64 (by unfold isInt; omega)]; rfl
     · simp only; rw [take_snoc hn, encL_append, hei]; simp only [Option.bind_some, encL_one]; exact hs4
   · rintro ch w4 ⟨rfl, hs4, s4, O4, f4, hw4, hn1, hn2⟩ a ha
     have f34 : Fr Oi wi O4 w4 := (f3.drop (fun _ h => h.elim)).trans f4
     refine bP (tP (tP (bP (pP ha ⟨rfl, encL_none hn hei hs4, s4, O4, fi.trans f34, hw4, ?_, hn2⟩))))
     have := (encL_use _ _ _ hei (by omega)).2
     rw [this] at hn1; exact hn1
 · have hge : i = l.length := by simp at hf; omega
   subst hge
   refine post_end0 rfl ha ⟨rfl, si, Oi, ?_, fi, hwi⟩
   rw [List.take_length] at hei; exact hei
theorem c249 {w0 : World} {S : Nat → Prop} {p most long : Nat} {l : List T} (h : ∀ t ∈ l, WEnc w0 S p most long 250 (.st .sort) t) : WList w0 S p most long 249 250 (.st .sort) l := by
 intro cs hr s O w hw hu
 obtain ⟨g, cap, hv, hml, hg⟩ := list_val hr
 rw [hv, enc_list]
 have hll := T.wts_len l
 obtain ⟨z, hz0, hzs⟩ : ∃ z, (∀ w, (zeroValue 286).run Tryz.prog w = .ok z w) ∧ z.cells.size = 19 := ⟨_, Tryz.zeroValue286, rfl⟩
 have hul : l.length < 18446744073709551616 := by omega
 obtain ⟨vb, hvb, hrb, hput⟩ := hw.put
 refine cW 29 Tryz.func249 rfl rfl rfl ?_
 refine W.sq (W.rg (WL.mv rfl rfl (WL.mv rfl rfl (WL.nc rfl rfl (WL.fa rfl (field185_0 _ _ _) rfl (WL.ld rfl (load1 ty22 hvb) rfl (WL.mv rfl rfl ?_)))))))
 refine WL.len rfl (lS Tryz.underlying67) rfl (WL.convert rfl (conv_int Tryz.runUnderlying3 Tryz.runUnderlying164) rfl ?_)
 rw [wrap_u64 (by omega) (by omega)]
 refine WL.cl Tryz.call97 rfl rfl (c97 hrb hul (by have := num_len10 hul; simp only [WS.use] at hu; omega)) ?_ nop
 rintro v' w1 ⟨r1, f1⟩
 obtain ⟨w2, O2, hst, f2, hw2⟩ := hput v' w1 _ f1 r1
 refine WL.nc rfl rfl (WL.fa rfl (field185_0 _ _ _) rfl (WL.so rfl rfl hst (WL.kp [(0, ptr p), (1, .slice g l.length cap), (2, .func (.func 250) #[ptr p] #[])] ⟨rfl, rfl, rfl, trivial⟩ ?_)))
 refine W.sq (W.rg (WL.mv rfl rfl (WL.len rfl (lS Tryz.underlying67) rfl (WL.mv rfl rfl (WL.nx ?_)))))
 have hsu := WS.num_use (s := s) hul
 refine W.bk (W.loop (ι := Nat × WS × (Nat → Prop)) (fun i => [(0, ptr p), (2, .func (.func 250) #[ptr p] #[]), (19, .slice g l.length cap), (20, .int .i64 l.length), (21, .int .i64 i.1)])
  (fun i w' => i.1 ≤ l.length ∧ WSt w0 S p most long i.2.1 i.2.2 w' ∧ Fr O w i.2.2 w' ∧ encL most long (l.take i.1) (s.num l.length) = some i.2.1) (fun i => l.length - i.1)
  (0, s.num l.length, O2) ⟨rfl, rfl, rfl, rfl, rfl, trivial⟩ ⟨Nat.zero_le _, hw2, f2, rfl⟩ ?_)
 rintro ⟨i, si, Oi⟩ wi ⟨hi, hwi, fi, hei⟩
 simp only at hi hwi fi hei ⊢
 refine W.sq (W.rg (WL.bi rfl rfl rfl rfl (WL.nx (W.sq ?_))))
 refine W.cond rfl (fun ht => W.skip fun a ha => tN ?_) (fun hf => W.exit fun a ha => tE (tE (eH ?_)))
 · have hlt : i < l.length := by simp at ht; omega
   obtain ⟨t, hn⟩ : ∃ t, l[i]? = some t := ⟨_, List.getElem?_eq_getElem hlt⟩
   rcases hg with ⟨_, rfl⟩ | ⟨b, o, rfl, hS, hb, hrl⟩
   · simp at hlt
   obtain ⟨ds, hat, hlen, hrep⟩ := RepL.get hrl hn
   have hlen' : ds.length = 19 := hlen
   have hone := Rep.one _ _ _ hrep
   have hat2 := At.input hwi hS hb hat
   have hwt := T.wts_take hn
   have hui := (encL_use _ _ _ hei (by omega)).1
   refine (W.sq (W.bk (W.sq (W.rg (WL.ix rfl rfl (indexSlice Tryz.underlying67 (iy286 : IsTy Tryz.prog 286 true 19) (by omega) (by omega)) rfl ?_))))) a ha
   rw [Int.toNat_natCast]
   refine WL.ld rfl (loadN iy286 hlen hat2) rfl (WL.alloc (hz0 _) rfl ?_)
   obtain ⟨w3, hst3, hb3, f3, hsz3⟩ := new_var (P := Tryz.prog) (w := wi) (v := .agg ds.toArray) (iy286 : IsTy Tryz.prog 286 true 19) hzs hlen rfl hone.2
   have hw3 := hwi.other f3 (fun _ h => h.elim)
   refine WL.so rfl rfl hst3 (WL.nx ?_)
   have hat3 := hb3.at_ 0 19
   rw [List.drop_zero, List.take_of_length_le (Nat.le_of_eq hlen')] at hat3
   refine W.rg (WL.mv rfl rfl (WL.ld rfl (loadN iy286 hlen hat3) rfl ?_))
   have hcall := h t (List.mem_of_getElem? hn) ds hrep si Oi w3 hw3 (by omega)
   refine WL.callv rfl Tryz.call250 rfl rfl hcall ?_ ?_
   · rintro v w4 ⟨rfl, s4, O4, hs4, f4, hw4⟩
     refine WL.nil fun a ha => bN (tN ((W.rg (WL.bi rfl rfl rfl rfl (WL.mv rfl rfl (WL.nil fun a ha => tN ?_)))) a ha))
     have f34 : Fr Oi wi O4 w4 := (f3.drop (fun _ h => h.elim)).trans f4
     refine ⟨(i + 1, s4, O4), ha.weak ⟨rfl, rfl, rfl, rfl, ?_, trivial⟩, ⟨hlt, hw4, fi.trans f34, ?_⟩, by simp only; omega⟩
     · show some (Value.int .i64 (IntKind.i64.wrap ((i : Int) + 1))) = some (Value.int .i64 ((i + 1 : Nat) : Int))
       rw [wrap_i64 (by unfold isInt; omega)]; rfl
     · simp only; rw [take_snoc hn, encL_append, hei]; simp only [Option.bind_some, encL_one]; exact hs4
   · rintro ch w4 ⟨rfl, hs4, s4, O4, f4, hw4, hn1, hn2⟩ a ha
     have f34 : Fr Oi wi O4 w4 := (f3.drop (fun _ h => h.elim)).trans f4
     refine bP (tP (tP (bP (pP ha ⟨rfl, encL_none hn hei hs4, s4, O4, fi.trans f34, hw4, ?_, hn2⟩))))
     have := (encL_use _ _ _ hei (by omega)).2
     rw [this] at hn1; exact hn1
 · have hge : i = l.length := by simp at hf; omega
   subst hge
   refine post_end0 rfl ha ⟨rfl, si, Oi, ?_, fi, hwi⟩
   rw [List.take_length] at hei; exact hei
theorem c251 {w0 : World} {S : Nat → Prop} {p most long : Nat} {l : List T} (h : ∀ t ∈ l, WEnc w0 S p most long 252 (.st .source) t) : WList w0 S p most long 251 252 (.st .source) l := by
 intro cs hr s O w hw hu
 obtain ⟨g, cap, hv, hml, hg⟩ := list_val hr
 rw [hv, enc_list]
 have hll := T.wts_len l
 obtain ⟨z, hz0, hzs⟩ : ∃ z, (∀ w, (zeroValue 290).run Tryz.prog w = .ok z w) ∧ z.cells.size = 17 := ⟨_, Tryz.zeroValue290, rfl⟩
 have hul : l.length < 18446744073709551616 := by omega
 obtain ⟨vb, hvb, hrb, hput⟩ := hw.put
 refine cW 29 Tryz.func251 rfl rfl rfl ?_
 refine W.sq (W.rg (WL.mv rfl rfl (WL.mv rfl rfl (WL.nc rfl rfl (WL.fa rfl (field185_0 _ _ _) rfl (WL.ld rfl (load1 ty22 hvb) rfl (WL.mv rfl rfl ?_)))))))
 refine WL.len rfl (lS Tryz.underlying69) rfl (WL.convert rfl (conv_int Tryz.runUnderlying3 Tryz.runUnderlying164) rfl ?_)
 rw [wrap_u64 (by omega) (by omega)]
 refine WL.cl Tryz.call97 rfl rfl (c97 hrb hul (by have := num_len10 hul; simp only [WS.use] at hu; omega)) ?_ nop
 rintro v' w1 ⟨r1, f1⟩
 obtain ⟨w2, O2, hst, f2, hw2⟩ := hput v' w1 _ f1 r1
 refine WL.nc rfl rfl (WL.fa rfl (field185_0 _ _ _) rfl (WL.so rfl rfl hst (WL.kp [(0, ptr p), (1, .slice g l.length cap), (2, .func (.func 252) #[ptr p] #[])] ⟨rfl, rfl, rfl, trivial⟩ ?_)))
 refine W.sq (W.rg (WL.mv rfl rfl (WL.len rfl (lS Tryz.underlying69) rfl (WL.mv rfl rfl (WL.nx ?_)))))
 have hsu := WS.num_use (s := s) hul
 refine W.bk (W.loop (ι := Nat × WS × (Nat → Prop)) (fun i => [(0, ptr p), (2, .func (.func 252) #[ptr p] #[]), (19, .slice g l.length cap), (20, .int .i64 l.length), (21, .int .i64 i.1)])
  (fun i w' => i.1 ≤ l.length ∧ WSt w0 S p most long i.2.1 i.2.2 w' ∧ Fr O w i.2.2 w' ∧ encL most long (l.take i.1) (s.num l.length) = some i.2.1) (fun i => l.length - i.1)
  (0, s.num l.length, O2) ⟨rfl, rfl, rfl, rfl, rfl, trivial⟩ ⟨Nat.zero_le _, hw2, f2, rfl⟩ ?_)
 rintro ⟨i, si, Oi⟩ wi ⟨hi, hwi, fi, hei⟩
 simp only at hi hwi fi hei ⊢
 refine W.sq (W.rg (WL.bi rfl rfl rfl rfl (WL.nx (W.sq ?_))))
 refine W.cond rfl (fun ht => W.skip fun a ha => tN ?_) (fun hf => W.exit fun a ha => tE (tE (eH ?_)))
 · have hlt : i < l.length := by simp at ht; omega
   obtain ⟨t, hn⟩ : ∃ t, l[i]? = some t := ⟨_, List.getElem?_eq_getElem hlt⟩
   rcases hg with ⟨_, rfl⟩ | ⟨b, o, rfl, hS, hb, hrl⟩
   · simp at hlt
   obtain ⟨ds, hat, hlen, hrep⟩ := RepL.get hrl hn
   have hlen' : ds.length = 17 := hlen
   have hone := Rep.one _ _ _ hrep
   have hat2 := At.input hwi hS hb hat
   have hwt := T.wts_take hn
   have hui := (encL_use _ _ _ hei (by omega)).1
   refine (W.sq (W.bk (W.sq (W.rg (WL.ix rfl rfl (indexSlice Tryz.underlying69 (iy290 : IsTy Tryz.prog 290 true 17) (by omega) (by omega)) rfl ?_))))) a ha
   rw [Int.toNat_natCast]
   refine WL.ld rfl (loadN iy290 hlen hat2) rfl (WL.alloc (hz0 _) rfl ?_)
   obtain ⟨w3, hst3, hb3, f3, hsz3⟩ := new_var (P := Tryz.prog) (w := wi) (v := .agg ds.toArray) (iy290 : IsTy Tryz.prog 290 true 17) hzs hlen rfl hone.2
   have hw3 := hwi.other f3 (fun _ h => h.elim)
   refine WL.so rfl rfl hst3 (WL.nx ?_)
   have hat3 := hb3.at_ 0 17
   rw [List.drop_zero, List.take_of_length_le (Nat.le_of_eq hlen')] at hat3
   refine W.rg (WL.mv rfl rfl (WL.ld rfl (loadN iy290 hlen hat3) rfl ?_))
   have hcall := h t (List.mem_of_getElem? hn) ds hrep si Oi w3 hw3 (by omega)
   refine WL.callv rfl Tryz.call252 rfl rfl hcall ?_ ?_
   · rintro v w4 ⟨rfl, s4, O4, hs4, f4, hw4⟩
     refine WL.nil fun a ha => bN (tN ((W.rg (WL.bi rfl rfl rfl rfl (WL.mv rfl rfl (WL.nil fun a ha => tN ?_)))) a ha))
     have f34 : Fr Oi wi O4 w4 := (f3.drop (fun _ h => h.elim)).trans f4
     refine ⟨(i + 1, s4, O4), ha.weak ⟨rfl, rfl, rfl, rfl, ?_, trivial⟩, ⟨hlt, hw4, fi.trans f34, ?_⟩, by simp only; omega⟩
     · show some (Value.int .i64 (IntKind.i64.wrap ((i : Int) + 1))) = some (Value.int .i64 ((i + 1 : Nat) : Int))
       rw [wrap_i64 (by unfold isInt; omega)]; rfl
     · simp only; rw [take_snoc hn, encL_append, hei]; simp only [Option.bind_some, encL_one]; exact hs4
   · rintro ch w4 ⟨rfl, hs4, s4, O4, f4, hw4, hn1, hn2⟩ a ha
     have f34 : Fr Oi wi O4 w4 := (f3.drop (fun _ h => h.elim)).trans f4
     refine bP (tP (tP (bP (pP ha ⟨rfl, encL_none hn hei hs4, s4, O4, fi.trans f34, hw4, ?_, hn2⟩))))
     have := (encL_use _ _ _ hei (by omega)).2
     rw [this] at hn1; exact hn1
 · have hge : i = l.length := by simp at hf; omega
   subst hge
   refine post_end0 rfl ha ⟨rfl, si, Oi, ?_, fi, hwi⟩
   rw [List.take_length] at hei; exact hei
theorem c253 {w0 : World} {S : Nat → Prop} {p most long : Nat} {l : List T} (h : ∀ t ∈ l, WEnc w0 S p most long 254 (.st .ctch) t) : WList w0 S p most long 253 254 (.st .ctch) l := by
 intro cs hr s O w hw hu
 obtain ⟨g, cap, hv, hml, hg⟩ := list_val hr
 rw [hv, enc_list]
 have hll := T.wts_len l
 obtain ⟨z, hz0, hzs⟩ : ∃ z, (∀ w, (zeroValue 294).run Tryz.prog w = .ok z w) ∧ z.cells.size = 2 := ⟨_, Tryz.zeroValue294, rfl⟩
 have hul : l.length < 18446744073709551616 := by omega
 obtain ⟨vb, hvb, hrb, hput⟩ := hw.put
 refine cW 29 Tryz.func253 rfl rfl rfl ?_
 refine W.sq (W.rg (WL.mv rfl rfl (WL.mv rfl rfl (WL.nc rfl rfl (WL.fa rfl (field185_0 _ _ _) rfl (WL.ld rfl (load1 ty22 hvb) rfl (WL.mv rfl rfl ?_)))))))
 refine WL.len rfl (lS Tryz.underlying70) rfl (WL.convert rfl (conv_int Tryz.runUnderlying3 Tryz.runUnderlying164) rfl ?_)
 rw [wrap_u64 (by omega) (by omega)]
 refine WL.cl Tryz.call97 rfl rfl (c97 hrb hul (by have := num_len10 hul; simp only [WS.use] at hu; omega)) ?_ nop
 rintro v' w1 ⟨r1, f1⟩
 obtain ⟨w2, O2, hst, f2, hw2⟩ := hput v' w1 _ f1 r1
 refine WL.nc rfl rfl (WL.fa rfl (field185_0 _ _ _) rfl (WL.so rfl rfl hst (WL.kp [(0, ptr p), (1, .slice g l.length cap), (2, .func (.func 254) #[ptr p] #[])] ⟨rfl, rfl, rfl, trivial⟩ ?_)))
 refine W.sq (W.rg (WL.mv rfl rfl (WL.len rfl (lS Tryz.underlying70) rfl (WL.mv rfl rfl (WL.nx ?_)))))
 have hsu := WS.num_use (s := s) hul
 refine W.bk (W.loop (ι := Nat × WS × (Nat → Prop)) (fun i => [(0, ptr p), (2, .func (.func 254) #[ptr p] #[]), (19, .slice g l.length cap), (20, .int .i64 l.length), (21, .int .i64 i.1)])
  (fun i w' => i.1 ≤ l.length ∧ WSt w0 S p most long i.2.1 i.2.2 w' ∧ Fr O w i.2.2 w' ∧ encL most long (l.take i.1) (s.num l.length) = some i.2.1) (fun i => l.length - i.1)
  (0, s.num l.length, O2) ⟨rfl, rfl, rfl, rfl, rfl, trivial⟩ ⟨Nat.zero_le _, hw2, f2, rfl⟩ ?_)
 rintro ⟨i, si, Oi⟩ wi ⟨hi, hwi, fi, hei⟩
 simp only at hi hwi fi hei ⊢
 refine W.sq (W.rg (WL.bi rfl rfl rfl rfl (WL.nx (W.sq ?_))))
 refine W.cond rfl (fun ht => W.skip fun a ha => tN ?_) (fun hf => W.exit fun a ha => tE (tE (eH ?_)))
 · have hlt : i < l.length := by simp at ht; omega
   obtain ⟨t, hn⟩ : ∃ t, l[i]? = some t := ⟨_, List.getElem?_eq_getElem hlt⟩
   rcases hg with ⟨_, rfl⟩ | ⟨b, o, rfl, hS, hb, hrl⟩
   · simp at hlt
   obtain ⟨ds, hat, hlen, hrep⟩ := RepL.get hrl hn
   have hlen' : ds.length = 2 := hlen
   have hone := Rep.one _ _ _ hrep
   have hat2 := At.input hwi hS hb hat
   have hwt := T.wts_take hn
   have hui := (encL_use _ _ _ hei (by omega)).1
   refine (W.sq (W.bk (W.sq (W.rg (WL.ix rfl rfl (indexSlice Tryz.underlying70 (iy294 : IsTy Tryz.prog 294 true 2) (by omega) (by omega)) rfl ?_))))) a ha
   rw [Int.toNat_natCast]
   refine WL.ld rfl (loadN iy294 hlen hat2) rfl (WL.alloc (hz0 _) rfl ?_)
   obtain ⟨w3, hst3, hb3, f3, hsz3⟩ := new_var (P := Tryz.prog) (w := wi) (v := .agg ds.toArray) (iy294 : IsTy Tryz.prog 294 true 2) hzs hlen rfl hone.2
   have hw3 := hwi.other f3 (fun _ h => h.elim)
   refine WL.so rfl rfl hst3 (WL.nx ?_)
   have hat3 := hb3.at_ 0 2
   rw [List.drop_zero, List.take_of_length_le (Nat.le_of_eq hlen')] at hat3
   refine W.rg (WL.mv rfl rfl (WL.ld rfl (loadN iy294 hlen hat3) rfl ?_))
   have hcall := h t (List.mem_of_getElem? hn) ds hrep si Oi w3 hw3 (by omega)
   refine WL.callv rfl Tryz.call254 rfl rfl hcall ?_ ?_
   · rintro v w4 ⟨rfl, s4, O4, hs4, f4, hw4⟩
     refine WL.nil fun a ha => bN (tN ((W.rg (WL.bi rfl rfl rfl rfl (WL.mv rfl rfl (WL.nil fun a ha => tN ?_)))) a ha))
     have f34 : Fr Oi wi O4 w4 := (f3.drop (fun _ h => h.elim)).trans f4
     refine ⟨(i + 1, s4, O4), ha.weak ⟨rfl, rfl, rfl, rfl, ?_, trivial⟩, ⟨hlt, hw4, fi.trans f34, ?_⟩, by simp only; omega⟩
     · show some (Value.int .i64 (IntKind.i64.wrap ((i : Int) + 1))) = some (Value.int .i64 ((i + 1 : Nat) : Int))
       rw [wrap_i64 (by unfold isInt; omega)]; rfl
     · simp only; rw [take_snoc hn, encL_append, hei]; simp only [Option.bind_some, encL_one]; exact hs4
   · rintro ch w4 ⟨rfl, hs4, s4, O4, f4, hw4, hn1, hn2⟩ a ha
     have f34 : Fr Oi wi O4 w4 := (f3.drop (fun _ h => h.elim)).trans f4
     refine bP (tP (tP (bP (pP ha ⟨rfl, encL_none hn hei hs4, s4, O4, fi.trans f34, hw4, ?_, hn2⟩))))
     have := (encL_use _ _ _ hei (by omega)).2
     rw [this] at hn1; exact hn1
 · have hge : i = l.length := by simp at hf; omega
   subst hge
   refine post_end0 rfl ha ⟨rfl, si, Oi, ?_, fi, hwi⟩
   rw [List.take_length] at hei; exact hei
theorem c286 {w0 : World} {S : Nat → Prop} {p most long : Nat} {l : List T} (h : ∀ t ∈ l, WEnc w0 S p most long 218 (.int) t) : WList w0 S p most long 286 218 (.int) l := by
 intro cs hr s O w hw hu
 obtain ⟨g, cap, hv, hml, hg⟩ := list_val hr
 rw [hv, enc_list]
 have hll := T.wts_len l
 have hul : l.length < 18446744073709551616 := by omega
 obtain ⟨vb, hvb, hrb, hput⟩ := hw.put
 refine cW 29 Tryz.func286 rfl rfl rfl ?_
 refine W.sq (W.rg (WL.mv rfl rfl (WL.mv rfl rfl (WL.nc rfl rfl (WL.fa rfl (field185_0 _ _ _) rfl (WL.ld rfl (load1 ty22 hvb) rfl (WL.mv rfl rfl ?_)))))))
 refine WL.len rfl (lS Tryz.underlying262) rfl (WL.convert rfl (conv_int Tryz.runUnderlying3 Tryz.runUnderlying164) rfl ?_)
 rw [wrap_u64 (by omega) (by omega)]
 refine WL.cl Tryz.call97 rfl rfl (c97 hrb hul (by have := num_len10 hul; simp only [WS.use] at hu; omega)) ?_ nop
 rintro v' w1 ⟨r1, f1⟩
 obtain ⟨w2, O2, hst, f2, hw2⟩ := hput v' w1 _ f1 r1
 refine WL.nc rfl rfl (WL.fa rfl (field185_0 _ _ _) rfl (WL.so rfl rfl hst (WL.kp [(0, ptr p), (1, .slice g l.length cap), (2, .func (.func 218) #[ptr p] #[])] ⟨rfl, rfl, rfl, trivial⟩ ?_)))
 refine W.sq (W.rg (WL.mv rfl rfl (WL.len rfl (lS Tryz.underlying262) rfl (WL.mv rfl rfl (WL.nx ?_)))))
 have hsu := WS.num_use (s := s) hul
 refine W.bk (W.loop (ι := Nat × WS × (Nat → Prop)) (fun i => [(0, ptr p), (2, .func (.func 218) #[ptr p] #[]), (19, .slice g l.length cap), (20, .int .i64 l.length), (21, .int .i64 i.1)])
  (fun i w' => i.1 ≤ l.length ∧ WSt w0 S p most long i.2.1 i.2.2 w' ∧ Fr O w i.2.2 w' ∧ encL most long (l.take i.1) (s.num l.length) = some i.2.1) (fun i => l.length - i.1)
  (0, s.num l.length, O2) ⟨rfl, rfl, rfl, rfl, rfl, trivial⟩ ⟨Nat.zero_le _, hw2, f2, rfl⟩ ?_)
 rintro ⟨i, si, Oi⟩ wi ⟨hi, hwi, fi, hei⟩
 simp only at hi hwi fi hei ⊢
 refine W.sq (W.rg (WL.bi rfl rfl rfl rfl (WL.nx (W.sq ?_))))
 refine W.cond rfl (fun ht => W.skip fun a ha => tN ?_) (fun hf => W.exit fun a ha => tE (tE (eH ?_)))
 · have hlt : i < l.length := by simp at ht; omega
   obtain ⟨t, hn⟩ : ∃ t, l[i]? = some t := ⟨_, List.getElem?_eq_getElem hlt⟩
   rcases hg with ⟨_, rfl⟩ | ⟨b, o, rfl, hS, hb, hrl⟩
   · simp at hlt
   obtain ⟨ds, hat, hlen, hrep⟩ := RepL.get hrl hn
   have hlen' : ds.length = 1 := hlen
   have hat2 := At.input hwi hS hb hat
   have hwt := T.wts_take hn
   have hui := (encL_use _ _ _ hei (by omega)).1
   refine (W.sq (W.bk (W.sq (W.rg (WL.ix rfl rfl (indexSlice Tryz.underlying262 (iy3 : IsTy Tryz.prog 3 false 1) (by omega) (by omega)) rfl ?_))))) a ha
   rw [Int.toNat_natCast]
   obtain ⟨x, rfl⟩ := List.length_eq_one_iff.1 hlen'
   refine WL.ld rfl (load1 (iy3 : IsTy Tryz.prog 3 false 1) (hat2 0 x rfl)) rfl (WL.an rfl rfl (WL.nx ?_))
   refine W.rg (WL.mv rfl rfl (WL.mv rfl rfl ?_))
   have hcall := h t (List.mem_of_getElem? hn) [x] hrep si Oi wi hwi (by omega)
   refine WL.callv rfl Tryz.call218 rfl rfl hcall ?_ ?_
   · rintro v w4 ⟨rfl, s4, O4, hs4, f4, hw4⟩
     refine WL.nil fun a ha => bN (tN ((W.rg (WL.bi rfl rfl rfl rfl (WL.mv rfl rfl (WL.nil fun a ha => tN ?_)))) a ha))
     refine ⟨(i + 1, s4, O4), ha.weak ⟨rfl, rfl, rfl, rfl, ?_, trivial⟩, ⟨hlt, hw4, fi.trans f4, ?_⟩, by simp only; omega⟩
     · show some (Value.int .i64 (IntKind.i64.wrap ((i : Int) + 1))) = some (Value.int .i64 ((i + 1 : Nat) : Int))
       rw [wrap_i64 (by unfold isInt; omega)]; rfl
     · simp only; rw [take_snoc hn, encL_append, hei]; simp only [Option.bind_some, encL_one]; exact hs4
   · rintro ch w4 ⟨rfl, hs4, s4, O4, f4, hw4, hn1, hn2⟩ a ha
     refine bP (tP (tP (bP (pP ha ⟨rfl, encL_none hn hei hs4, s4, O4, fi.trans f4, hw4, ?_, hn2⟩))))
     have := (encL_use _ _ _ hei (by omega)).2
     rw [this] at hn1; exact hn1
 · have hge : i = l.length := by simp at hf; omega
   subst hge
   refine post_end0 rfl ha ⟨rfl, si, Oi, ?_, fi, hwi⟩
   rw [List.take_length] at hei; exact hei
end Go.Sx
