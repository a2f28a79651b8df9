import Derived.Test.YtdldhfocpandoaaGreatStA
set_option maxHeartbeats 8000000
set_option maxRecDepth 8000
namespace Go.Sx
open Go.Proofs Go.Proofs.Tryz
def DH (w0 : World) (S : Nat → Prop) (p most long : Nat) (f fe : FuncId) (e : Ty) (l : List T) : Prop :=
 ∀ cs, Rep w0 S (.list l) (.list e) cs → ∀ s O w, WSt w0 S p most long s O w → s.use + 11 * (BA l + 1) ≤ 2 ^ 40 →
  Calls prog f [ptr p, CU (.list e) cs, .func (.func fe) #[ptr p] #[]].toArray w
   (Dq (PE w0 S p most long O w (enc most long (.list l) s)) (Mp w0 S p most long O w (enc most long (.list l) s) s.nest))
theorem C0 {most long : Nat} {l : List T} {s : WS} : enc most long (.list l) s = BU most long l (s.num l.length) := by simp only [enc]
theorem Cs {w0 w : World} {S : Nat → Prop} {p most long : Nat} {s : WS} {O : Nat → Prop} (h : WSt w0 S p most long s O w) {b o : Nat} {ds : List Value} (hS : S b) (hb : b < w0.heap.size) (k : At w0 b o ds) : At w b o ds :=
 k.agree (h.inp b hS hb).2
theorem Cr {w0 : World} {S : Nat → Prop} {e : Ty} {l : List T} {cs : List Value} (h : Rep w0 S (.list l) (.list e) cs) :
 ∃ g cap, CU (.list e) cs = .slice g l.length cap ∧ l.length ≤ maxLen ∧ ((True ∧ l = []) ∨ ∃ b o, g = some ⟨b, o, none⟩ ∧ S b ∧ b < w0.heap.size ∧ RepL w0 S e l b o) := by
 simp only [Rep] at h
 rcases h with ⟨⟨g, cap, rfl⟩, rfl⟩ | ⟨b, o, cap, rfl, h1, h2, h3, h4, h5⟩
 · exact ⟨g, cap, rfl, Nat.zero_le _, .inl ⟨trivial, rfl⟩⟩
 · exact ⟨_, cap, rfl, by omega, .inr ⟨b, o, rfl, h1, h2, h5⟩⟩
theorem QH {w0 : World} {S : Nat → Prop} {p most long : Nat} {l : List T} (h : ∀ t ∈ l, CC w0 S p most long 153 (.st .use) t) : DH w0 S p most long 152 153 (.st .use) l := by
 intro cs hr s O w hw hu
 obtain ⟨g, cap, hv, hml, hg⟩ := Cr hr
 rw [hv, C0]
 have hll := BW l
 obtain ⟨z, hz0, hzs⟩ : ∃ z, (∀ w, (zeroValue 48).run prog w = .ok z w) ∧ z.cells.size = 4 := ⟨_, zeroValue48, rfl⟩
 have hul : l.length < 18446744073709551616 := by omega
 obtain ⟨vb, hvb, hrb, hput⟩ := hw.put
 refine AB 29 func152 V V V ?_
 refine Af (Aa (Ac V V (Ac V V (As V V (Ab V (Bf _ _ _) V (Ai V (A4 CG hvb) V (Ac V V ?_)))))))
 refine AE V (Ay underlying26) V (AJ V (Bv runUnderlying3 runUnderlying164) V ?_)
 rw [Bz (by omega) (by omega)]
 refine Aj call97 V V (JN hrb hul (by have := B_ hul; simp only [WS.use] at hu; omega)) ?_ Be
 rintro v' w1 ⟨r1, f1⟩
 obtain ⟨w2, O2, hst, f2, hw2⟩ := hput v' w1 _ f1 r1
 refine As V V (Ab V (Bf _ _ _) V (An V V hst (Ar [(0, ptr p), (1, .slice g l.length cap), (2, .func (.func 153) #[ptr p] #[])] ⟨V, V, V, trivial⟩ ?_)))
 refine Af (Aa (Ac V V (AE V (Ay underlying26) V (Ac V V (Ae ?_)))))
 have hsu := Bq (s := s) hul
 refine A1 (AW (ι := Nat × WS × (Nat → Prop)) (fun i => [(0, ptr p), (2, .func (.func 153) #[ptr p] #[]), (19, .slice g l.length cap), (20, .int .i64 l.length), (21, .int .i64 i.1)])
  (fun i w' => i.1 ≤ l.length ∧ WSt w0 S p most long i.2.1 i.2.2 w' ∧ Fr O w i.2.2 w' ∧ BU most long (l.take i.1) (s.num l.length) = some i.2.1) (fun i => l.length - i.1)
  (0, s.num l.length, O2) ⟨V, V, V, V, V, trivial⟩ ⟨Nat.zero_le _, hw2, f2, rfl⟩ ?_)
 rintro ⟨i, si, Oi⟩ wi ⟨hi, hwi, fi, hei⟩
 simp only at hi hwi fi hei ⊢
 refine Af (Aa (Al V V V V (Ae (Af ?_))))
 refine AK V (fun ht => A_ fun a ha => Ad ?_) (fun hf => AQ fun a ha => Aq (Aq (A3 ?_)))
 · have hlt : i < l.length := by simp at ht; omega
   obtain ⟨t, hn⟩ : ∃ t, l[i]? = some t := ⟨_, List.getElem?_eq_getElem hlt⟩
   rcases hg with ⟨_, rfl⟩ | ⟨b, o, rfl, hS, hb, hrl⟩
   · simp at hlt
   obtain ⟨ds, hat, hlen, hrep⟩ := RepL.get hrl hn
   have hlen' : ds.length = 4 := hlen
   have hone := Rep.one _ _ _ hrep
   have hat2 := Cs hwi hS hb hat
   have hwt := Cb hn
   have hui := (Bw _ _ _ hei (by omega)).1
   refine (Af (A1 (Af (Aa (A0 V V (Bp underlying26 (E5 : By prog 48 true 4) (by omega) (by omega)) V ?_))))) a ha
   rw [Int.toNat_natCast]
   refine Ai V (Bg E5 hlen hat2) V (AO (hz0 _) V ?_)
   obtain ⟨w3, hst3, hb3, f3, hsz3⟩ := CV (P := prog) (w := wi) (v := .agg ds.toArray) (E5 : By prog 48 true 4) hzs hlen rfl hone.2
   have hw3 := hwi.other f3 (fun _ h => h.elim)
   refine An V V hst3 (Ae ?_)
   have hat3 := hb3.at_ 0 4
   rw [List.drop_zero, List.take_of_length_le (Nat.le_of_eq hlen')] at hat3
   refine Aa (Ac V V (Ai V (Bg E5 hlen hat3) V ?_))
   have hcall := h t (List.mem_of_getElem? hn) ds hrep si Oi w3 hw3 (by omega)
   refine B8 V call153 V V hcall ?_ ?_
   · rintro v w4 ⟨rfl, s4, O4, hs4, f4, hw4⟩
     refine A2 fun a ha => Az (Ad ((Aa (Al V V V V (Ac V V (A2 fun a ha => Ad ?_)))) a ha))
     have f34 : Fr Oi wi O4 w4 := (f3.drop (fun _ h => h.elim)).trans f4
     refine ⟨(i + 1, s4, O4), ha.weak ⟨rfl, rfl, rfl, rfl, ?_, trivial⟩, ⟨hlt, hw4, fi.trans f34, ?_⟩, by simp only; omega⟩
     · show some (Value.int .i64 (IntKind.i64.wrap ((i : Int) + 1))) = some (Value.int .i64 ((i + 1 : Nat) : Int))
       rw [B4 (by unfold Bu; omega)]; rfl
     · simp only; rw [BK hn, Bx, hei]; simp only [Option.bind_some, Cm]; exact hs4
   · rintro ch w4 ⟨rfl, hs4, s4, O4, f4, hw4, hn1, hn2⟩ a ha
     have f34 : Fr Oi wi O4 w4 := (f3.drop (fun _ h => h.elim)).trans f4
     refine AD (Am (Am (AD (Av ha ⟨rfl, Ci hn hei hs4, s4, O4, fi.trans f34, hw4, ?_, hn2⟩))))
     have := (Bw _ _ _ hei (by omega)).2
     rw [this] at hn1; exact hn1
 · have hge : i = l.length := by simp at hf; omega
   subst hge
   refine AV V ha ⟨rfl, si, Oi, ?_, fi, hwi⟩
   rw [List.take_length] at hei; exact hei
theorem R6 {w0 : World} {S : Nat → Prop} {p most long : Nat} {l : List T} (h : ∀ t ∈ l, CC w0 S p most long 155 (.st .template) t) : DH w0 S p most long 154 155 (.st .template) l := by
 intro cs hr s O w hw hu
 obtain ⟨g, cap, hv, hml, hg⟩ := Cr hr
 rw [hv, C0]
 have hll := BW l
 obtain ⟨z, hz0, hzs⟩ : ∃ z, (∀ w, (zeroValue 74).run prog w = .ok z w) ∧ z.cells.size = 12 := ⟨_, zeroValue74, rfl⟩
 have hul : l.length < 18446744073709551616 := by omega
 obtain ⟨vb, hvb, hrb, hput⟩ := hw.put
 refine AB 29 func154 V V V ?_
 refine Af (Aa (Ac V V (Ac V V (As V V (Ab V (Bf _ _ _) V (Ai V (A4 CG hvb) V (Ac V V ?_)))))))
 refine AE V (Ay underlying27) V (AJ V (Bv runUnderlying3 runUnderlying164) V ?_)
 rw [Bz (by omega) (by omega)]
 refine Aj call97 V V (JN hrb hul (by have := B_ hul; simp only [WS.use] at hu; omega)) ?_ Be
 rintro v' w1 ⟨r1, f1⟩
 obtain ⟨w2, O2, hst, f2, hw2⟩ := hput v' w1 _ f1 r1
 refine As V V (Ab V (Bf _ _ _) V (An V V hst (Ar [(0, ptr p), (1, .slice g l.length cap), (2, .func (.func 155) #[ptr p] #[])] ⟨V, V, V, trivial⟩ ?_)))
 refine Af (Aa (Ac V V (AE V (Ay underlying27) V (Ac V V (Ae ?_)))))
 have hsu := Bq (s := s) hul
 refine A1 (AW (ι := Nat × WS × (Nat → Prop)) (fun i => [(0, ptr p), (2, .func (.func 155) #[ptr p] #[]), (19, .slice g l.length cap), (20, .int .i64 l.length), (21, .int .i64 i.1)])
  (fun i w' => i.1 ≤ l.length ∧ WSt w0 S p most long i.2.1 i.2.2 w' ∧ Fr O w i.2.2 w' ∧ BU most long (l.take i.1) (s.num l.length) = some i.2.1) (fun i => l.length - i.1)
  (0, s.num l.length, O2) ⟨V, V, V, V, V, trivial⟩ ⟨Nat.zero_le _, hw2, f2, rfl⟩ ?_)
 rintro ⟨i, si, Oi⟩ wi ⟨hi, hwi, fi, hei⟩
 simp only at hi hwi fi hei ⊢
 refine Af (Aa (Al V V V V (Ae (Af ?_))))
 refine AK V (fun ht => A_ fun a ha => Ad ?_) (fun hf => AQ fun a ha => Aq (Aq (A3 ?_)))
 · have hlt : i < l.length := by simp at ht; omega
   obtain ⟨t, hn⟩ : ∃ t, l[i]? = some t := ⟨_, List.getElem?_eq_getElem hlt⟩
   rcases hg with ⟨_, rfl⟩ | ⟨b, o, rfl, hS, hb, hrl⟩
   · simp at hlt
   obtain ⟨ds, hat, hlen, hrep⟩ := RepL.get hrl hn
   have hlen' : ds.length = 12 := hlen
   have hone := Rep.one _ _ _ hrep
   have hat2 := Cs hwi hS hb hat
   have hwt := Cb hn
   have hui := (Bw _ _ _ hei (by omega)).1
   refine (Af (A1 (Af (Aa (A0 V V (Bp underlying27 (Hd : By prog 74 true 12) (by omega) (by omega)) V ?_))))) a ha
   rw [Int.toNat_natCast]
   refine Ai V (Bg Hd hlen hat2) V (AO (hz0 _) V ?_)
   obtain ⟨w3, hst3, hb3, f3, hsz3⟩ := CV (P := prog) (w := wi) (v := .agg ds.toArray) (Hd : By prog 74 true 12) hzs hlen rfl hone.2
   have hw3 := hwi.other f3 (fun _ h => h.elim)
   refine An V V hst3 (Ae ?_)
   have hat3 := hb3.at_ 0 12
   rw [List.drop_zero, List.take_of_length_le (Nat.le_of_eq hlen')] at hat3
   refine Aa (Ac V V (Ai V (Bg Hd hlen hat3) V ?_))
   have hcall := h t (List.mem_of_getElem? hn) ds hrep si Oi w3 hw3 (by omega)
   refine B8 V call155 V V hcall ?_ ?_
   · rintro v w4 ⟨rfl, s4, O4, hs4, f4, hw4⟩
     refine A2 fun a ha => Az (Ad ((Aa (Al V V V V (Ac V V (A2 fun a ha => Ad ?_)))) a ha))
     have f34 : Fr Oi wi O4 w4 := (f3.drop (fun _ h => h.elim)).trans f4
     refine ⟨(i + 1, s4, O4), ha.weak ⟨rfl, rfl, rfl, rfl, ?_, trivial⟩, ⟨hlt, hw4, fi.trans f34, ?_⟩, by simp only; omega⟩
     · show some (Value.int .i64 (IntKind.i64.wrap ((i : Int) + 1))) = some (Value.int .i64 ((i + 1 : Nat) : Int))
       rw [B4 (by unfold Bu; omega)]; rfl
     · simp only; rw [BK hn, Bx, hei]; simp only [Option.bind_some, Cm]; exact hs4
   · rintro ch w4 ⟨rfl, hs4, s4, O4, f4, hw4, hn1, hn2⟩ a ha
     have f34 : Fr Oi wi O4 w4 := (f3.drop (fun _ h => h.elim)).trans f4
     refine AD (Am (Am (AD (Av ha ⟨rfl, Ci hn hei hs4, s4, O4, fi.trans f34, hw4, ?_, hn2⟩))))
     have := (Bw _ _ _ hei (by omega)).2
     rw [this] at hn1; exact hn1
 · have hge : i = l.length := by simp at hf; omega
   subst hge
   refine AV V ha ⟨rfl, si, Oi, ?_, fi, hwi⟩
   rw [List.take_length] at hei; exact hei
theorem R2 {w0 : World} {S : Nat → Prop} {p most long : Nat} {l : List T} (h : ∀ t ∈ l, CC w0 S p most long 157 (.st .dfn) t) : DH w0 S p most long 156 157 (.st .dfn) l := by
 intro cs hr s O w hw hu
 obtain ⟨g, cap, hv, hml, hg⟩ := Cr hr
 rw [hv, C0]
 have hll := BW l
 obtain ⟨z, hz0, hzs⟩ : ∃ z, (∀ w, (zeroValue 140).run prog w = .ok z w) ∧ z.cells.size = 27 := ⟨_, zeroValue140, rfl⟩
 have hul : l.length < 18446744073709551616 := by omega
 obtain ⟨vb, hvb, hrb, hput⟩ := hw.put
 refine AB 29 func156 V V V ?_
 refine Af (Aa (Ac V V (Ac V V (As V V (Ab V (Bf _ _ _) V (Ai V (A4 CG hvb) V (Ac V V ?_)))))))
 refine AE V (Ay underlying28) V (AJ V (Bv runUnderlying3 runUnderlying164) V ?_)
 rw [Bz (by omega) (by omega)]
 refine Aj call97 V V (JN hrb hul (by have := B_ hul; simp only [WS.use] at hu; omega)) ?_ Be
 rintro v' w1 ⟨r1, f1⟩
 obtain ⟨w2, O2, hst, f2, hw2⟩ := hput v' w1 _ f1 r1
 refine As V V (Ab V (Bf _ _ _) V (An V V hst (Ar [(0, ptr p), (1, .slice g l.length cap), (2, .func (.func 157) #[ptr p] #[])] ⟨V, V, V, trivial⟩ ?_)))
 refine Af (Aa (Ac V V (AE V (Ay underlying28) V (Ac V V (Ae ?_)))))
 have hsu := Bq (s := s) hul
 refine A1 (AW (ι := Nat × WS × (Nat → Prop)) (fun i => [(0, ptr p), (2, .func (.func 157) #[ptr p] #[]), (19, .slice g l.length cap), (20, .int .i64 l.length), (21, .int .i64 i.1)])
  (fun i w' => i.1 ≤ l.length ∧ WSt w0 S p most long i.2.1 i.2.2 w' ∧ Fr O w i.2.2 w' ∧ BU most long (l.take i.1) (s.num l.length) = some i.2.1) (fun i => l.length - i.1)
  (0, s.num l.length, O2) ⟨V, V, V, V, V, trivial⟩ ⟨Nat.zero_le _, hw2, f2, rfl⟩ ?_)
 rintro ⟨i, si, Oi⟩ wi ⟨hi, hwi, fi, hei⟩
 simp only at hi hwi fi hei ⊢
 refine Af (Aa (Al V V V V (Ae (Af ?_))))
 refine AK V (fun ht => A_ fun a ha => Ad ?_) (fun hf => AQ fun a ha => Aq (Aq (A3 ?_)))
 · have hlt : i < l.length := by simp at ht; omega
   obtain ⟨t, hn⟩ : ∃ t, l[i]? = some t := ⟨_, List.getElem?_eq_getElem hlt⟩
   rcases hg with ⟨_, rfl⟩ | ⟨b, o, rfl, hS, hb, hrl⟩
   · simp at hlt
   obtain ⟨ds, hat, hlen, hrep⟩ := RepL.get hrl hn
   have hlen' : ds.length = 27 := hlen
   have hone := Rep.one _ _ _ hrep
   have hat2 := Cs hwi hS hb hat
   have hwt := Cb hn
   have hui := (Bw _ _ _ hei (by omega)).1
   refine (Af (A1 (Af (Aa (A0 V V (Bp underlying28 (Et : By prog 140 true 27) (by omega) (by omega)) V ?_))))) a ha
   rw [Int.toNat_natCast]
   refine Ai V (Bg Et hlen hat2) V (AO (hz0 _) V ?_)
   obtain ⟨w3, hst3, hb3, f3, hsz3⟩ := CV (P := prog) (w := wi) (v := .agg ds.toArray) (Et : By prog 140 true 27) hzs hlen rfl hone.2
   have hw3 := hwi.other f3 (fun _ h => h.elim)
   refine An V V hst3 (Ae ?_)
   have hat3 := hb3.at_ 0 27
   rw [List.drop_zero, List.take_of_length_le (Nat.le_of_eq hlen')] at hat3
   refine Aa (Ac V V (Ai V (Bg Et hlen hat3) V ?_))
   have hcall := h t (List.mem_of_getElem? hn) ds hrep si Oi w3 hw3 (by omega)
   refine B8 V call157 V V hcall ?_ ?_
   · rintro v w4 ⟨rfl, s4, O4, hs4, f4, hw4⟩
     refine A2 fun a ha => Az (Ad ((Aa (Al V V V V (Ac V V (A2 fun a ha => Ad ?_)))) a ha))
     have f34 : Fr Oi wi O4 w4 := (f3.drop (fun _ h => h.elim)).trans f4
     refine ⟨(i + 1, s4, O4), ha.weak ⟨rfl, rfl, rfl, rfl, ?_, trivial⟩, ⟨hlt, hw4, fi.trans f34, ?_⟩, by simp only; omega⟩
     · show some (Value.int .i64 (IntKind.i64.wrap ((i : Int) + 1))) = some (Value.int .i64 ((i + 1 : Nat) : Int))
       rw [B4 (by unfold Bu; omega)]; rfl
     · simp only; rw [BK hn, Bx, hei]; simp only [Option.bind_some, Cm]; exact hs4
   · rintro ch w4 ⟨rfl, hs4, s4, O4, f4, hw4, hn1, hn2⟩ a ha
     have f34 : Fr Oi wi O4 w4 := (f3.drop (fun _ h => h.elim)).trans f4
     refine AD (Am (Am (AD (Av ha ⟨rfl, Ci hn hei hs4, s4, O4, fi.trans f34, hw4, ?_, hn2⟩))))
     have := (Bw _ _ _ hei (by omega)).2
     rw [this] at hn1; exact hn1
 · have hge : i = l.length := by simp at hf; omega
   subst hge
   refine AV V ha ⟨rfl, si, Oi, ?_, fi, hwi⟩
   rw [List.take_length] at hei; exact hei
theorem QM {w0 : World} {S : Nat → Prop} {p most long : Nat} {l : List T} (h : ∀ t ∈ l, CC w0 S p most long 159 (.st .global) t) : DH w0 S p most long 158 159 (.st .global) l := by
 intro cs hr s O w hw hu
 obtain ⟨g, cap, hv, hml, hg⟩ := Cr hr
 rw [hv, C0]
 have hll := BW l
 obtain ⟨z, hz0, hzs⟩ : ∃ z, (∀ w, (zeroValue 144).run prog w = .ok z w) ∧ z.cells.size = 29 := ⟨_, zeroValue144, rfl⟩
 have hul : l.length < 18446744073709551616 := by omega
 obtain ⟨vb, hvb, hrb, hput⟩ := hw.put
 refine AB 29 func158 V V V ?_
 refine Af (Aa (Ac V V (Ac V V (As V V (Ab V (Bf _ _ _) V (Ai V (A4 CG hvb) V (Ac V V ?_)))))))
 refine AE V (Ay underlying29) V (AJ V (Bv runUnderlying3 runUnderlying164) V ?_)
 rw [Bz (by omega) (by omega)]
 refine Aj call97 V V (JN hrb hul (by have := B_ hul; simp only [WS.use] at hu; omega)) ?_ Be
 rintro v' w1 ⟨r1, f1⟩
 obtain ⟨w2, O2, hst, f2, hw2⟩ := hput v' w1 _ f1 r1
 refine As V V (Ab V (Bf _ _ _) V (An V V hst (Ar [(0, ptr p), (1, .slice g l.length cap), (2, .func (.func 159) #[ptr p] #[])] ⟨V, V, V, trivial⟩ ?_)))
 refine Af (Aa (Ac V V (AE V (Ay underlying29) V (Ac V V (Ae ?_)))))
 have hsu := Bq (s := s) hul
 refine A1 (AW (ι := Nat × WS × (Nat → Prop)) (fun i => [(0, ptr p), (2, .func (.func 159) #[ptr p] #[]), (19, .slice g l.length cap), (20, .int .i64 l.length), (21, .int .i64 i.1)])
  (fun i w' => i.1 ≤ l.length ∧ WSt w0 S p most long i.2.1 i.2.2 w' ∧ Fr O w i.2.2 w' ∧ BU most long (l.take i.1) (s.num l.length) = some i.2.1) (fun i => l.length - i.1)
  (0, s.num l.length, O2) ⟨V, V, V, V, V, trivial⟩ ⟨Nat.zero_le _, hw2, f2, rfl⟩ ?_)
 rintro ⟨i, si, Oi⟩ wi ⟨hi, hwi, fi, hei⟩
 simp only at hi hwi fi hei ⊢
 refine Af (Aa (Al V V V V (Ae (Af ?_))))
 refine AK V (fun ht => A_ fun a ha => Ad ?_) (fun hf => AQ fun a ha => Aq (Aq (A3 ?_)))
 · have hlt : i < l.length := by simp at ht; omega
   obtain ⟨t, hn⟩ : ∃ t, l[i]? = some t := ⟨_, List.getElem?_eq_getElem hlt⟩
   rcases hg with ⟨_, rfl⟩ | ⟨b, o, rfl, hS, hb, hrl⟩
   · simp at hlt
   obtain ⟨ds, hat, hlen, hrep⟩ := RepL.get hrl hn
   have hlen' : ds.length = 29 := hlen
   have hone := Rep.one _ _ _ hrep
   have hat2 := Cs hwi hS hb hat
   have hwt := Cb hn
   have hui := (Bw _ _ _ hei (by omega)).1
   refine (Af (A1 (Af (Aa (A0 V V (Bp underlying29 (Em : By prog 144 true 29) (by omega) (by omega)) V ?_))))) a ha
   rw [Int.toNat_natCast]
   refine Ai V (Bg Em hlen hat2) V (AO (hz0 _) V ?_)
   obtain ⟨w3, hst3, hb3, f3, hsz3⟩ := CV (P := prog) (w := wi) (v := .agg ds.toArray) (Em : By prog 144 true 29) hzs hlen rfl hone.2
   have hw3 := hwi.other f3 (fun _ h => h.elim)
   refine An V V hst3 (Ae ?_)
   have hat3 := hb3.at_ 0 29
   rw [List.drop_zero, List.take_of_length_le (Nat.le_of_eq hlen')] at hat3
   refine Aa (Ac V V (Ai V (Bg Em hlen hat3) V ?_))
   have hcall := h t (List.mem_of_getElem? hn) ds hrep si Oi w3 hw3 (by omega)
   refine B8 V call159 V V hcall ?_ ?_
   · rintro v w4 ⟨rfl, s4, O4, hs4, f4, hw4⟩
     refine A2 fun a ha => Az (Ad ((Aa (Al V V V V (Ac V V (A2 fun a ha => Ad ?_)))) a ha))
     have f34 : Fr Oi wi O4 w4 := (f3.drop (fun _ h => h.elim)).trans f4
     refine ⟨(i + 1, s4, O4), ha.weak ⟨rfl, rfl, rfl, rfl, ?_, trivial⟩, ⟨hlt, hw4, fi.trans f34, ?_⟩, by simp only; omega⟩
     · show some (Value.int .i64 (IntKind.i64.wrap ((i : Int) + 1))) = some (Value.int .i64 ((i + 1 : Nat) : Int))
       rw [B4 (by unfold Bu; omega)]; rfl
     · simp only; rw [BK hn, Bx, hei]; simp only [Option.bind_some, Cm]; exact hs4
   · rintro ch w4 ⟨rfl, hs4, s4, O4, f4, hw4, hn1, hn2⟩ a ha
     have f34 : Fr Oi wi O4 w4 := (f3.drop (fun _ h => h.elim)).trans f4
     refine AD (Am (Am (AD (Av ha ⟨rfl, Ci hn hei hs4, s4, O4, fi.trans f34, hw4, ?_, hn2⟩))))
     have := (Bw _ _ _ hei (by omega)).2
     rw [this] at hn1; exact hn1
 · have hge : i = l.length := by simp at hf; omega
   subst hge
   refine AV V ha ⟨rfl, si, Oi, ?_, fi, hwi⟩
   rw [List.take_length] at hei; exact hei
theorem Rf {w0 : World} {S : Nat → Prop} {p most long : Nat} {l : List T} (h : ∀ t ∈ l, CC w0 S p most long 161 (.st .key) t) : DH w0 S p most long 160 161 (.st .key) l := by
 intro cs hr s O w hw hu
 obtain ⟨g, cap, hv, hml, hg⟩ := Cr hr
 rw [hv, C0]
 have hll := BW l
 obtain ⟨z, hz0, hzs⟩ : ∃ z, (∀ w, (zeroValue 76).run prog w = .ok z w) ∧ z.cells.size = 18 := ⟨_, zeroValue76, rfl⟩
 have hul : l.length < 18446744073709551616 := by omega
 obtain ⟨vb, hvb, hrb, hput⟩ := hw.put
 refine AB 29 func160 V V V ?_
 refine Af (Aa (Ac V V (Ac V V (As V V (Ab V (Bf _ _ _) V (Ai V (A4 CG hvb) V (Ac V V ?_)))))))
 refine AE V (Ay underlying30) V (AJ V (Bv runUnderlying3 runUnderlying164) V ?_)
 rw [Bz (by omega) (by omega)]
 refine Aj call97 V V (JN hrb hul (by have := B_ hul; simp only [WS.use] at hu; omega)) ?_ Be
 rintro v' w1 ⟨r1, f1⟩
 obtain ⟨w2, O2, hst, f2, hw2⟩ := hput v' w1 _ f1 r1
 refine As V V (Ab V (Bf _ _ _) V (An V V hst (Ar [(0, ptr p), (1, .slice g l.length cap), (2, .func (.func 161) #[ptr p] #[])] ⟨V, V, V, trivial⟩ ?_)))
 refine Af (Aa (Ac V V (AE V (Ay underlying30) V (Ac V V (Ae ?_)))))
 have hsu := Bq (s := s) hul
 refine A1 (AW (ι := Nat × WS × (Nat → Prop)) (fun i => [(0, ptr p), (2, .func (.func 161) #[ptr p] #[]), (19, .slice g l.length cap), (20, .int .i64 l.length), (21, .int .i64 i.1)])
  (fun i w' => i.1 ≤ l.length ∧ WSt w0 S p most long i.2.1 i.2.2 w' ∧ Fr O w i.2.2 w' ∧ BU most long (l.take i.1) (s.num l.length) = some i.2.1) (fun i => l.length - i.1)
  (0, s.num l.length, O2) ⟨V, V, V, V, V, trivial⟩ ⟨Nat.zero_le _, hw2, f2, rfl⟩ ?_)
 rintro ⟨i, si, Oi⟩ wi ⟨hi, hwi, fi, hei⟩
 simp only at hi hwi fi hei ⊢
 refine Af (Aa (Al V V V V (Ae (Af ?_))))
 refine AK V (fun ht => A_ fun a ha => Ad ?_) (fun hf => AQ fun a ha => Aq (Aq (A3 ?_)))
 · have hlt : i < l.length := by simp at ht; omega
   obtain ⟨t, hn⟩ : ∃ t, l[i]? = some t := ⟨_, List.getElem?_eq_getElem hlt⟩
   rcases hg with ⟨_, rfl⟩ | ⟨b, o, rfl, hS, hb, hrl⟩
   · simp at hlt
   obtain ⟨ds, hat, hlen, hrep⟩ := RepL.get hrl hn
   have hlen' : ds.length = 18 := hlen
   have hone := Rep.one _ _ _ hrep
   have hat2 := Cs hwi hS hb hat
   have hwt := Cb hn
   have hui := (Bw _ _ _ hei (by omega)).1
   refine (Af (A1 (Af (Aa (A0 V V (Bp underlying30 (Ha : By prog 76 true 18) (by omega) (by omega)) V ?_))))) a ha
   rw [Int.toNat_natCast]
   refine Ai V (Bg Ha hlen hat2) V (AO (hz0 _) V ?_)
   obtain ⟨w3, hst3, hb3, f3, hsz3⟩ := CV (P := prog) (w := wi) (v := .agg ds.toArray) (Ha : By prog 76 true 18) hzs hlen rfl hone.2
   have hw3 := hwi.other f3 (fun _ h => h.elim)
   refine An V V hst3 (Ae ?_)
   have hat3 := hb3.at_ 0 18
   rw [List.drop_zero, List.take_of_length_le (Nat.le_of_eq hlen')] at hat3
   refine Aa (Ac V V (Ai V (Bg Ha hlen hat3) V ?_))
   have hcall := h t (List.mem_of_getElem? hn) ds hrep si Oi w3 hw3 (by omega)
   refine B8 V call161 V V hcall ?_ ?_
   · rintro v w4 ⟨rfl, s4, O4, hs4, f4, hw4⟩
     refine A2 fun a ha => Az (Ad ((Aa (Al V V V V (Ac V V (A2 fun a ha => Ad ?_)))) a ha))
     have f34 : Fr Oi wi O4 w4 := (f3.drop (fun _ h => h.elim)).trans f4
     refine ⟨(i + 1, s4, O4), ha.weak ⟨rfl, rfl, rfl, rfl, ?_, trivial⟩, ⟨hlt, hw4, fi.trans f34, ?_⟩, by simp only; omega⟩
     · show some (Value.int .i64 (IntKind.i64.wrap ((i : Int) + 1))) = some (Value.int .i64 ((i + 1 : Nat) : Int))
       rw [B4 (by unfold Bu; omega)]; rfl
     · simp only; rw [BK hn, Bx, hei]; simp only [Option.bind_some, Cm]; exact hs4
   · rintro ch w4 ⟨rfl, hs4, s4, O4, f4, hw4, hn1, hn2⟩ a ha
     have f34 : Fr Oi wi O4 w4 := (f3.drop (fun _ h => h.elim)).trans f4
     refine AD (Am (Am (AD (Av ha ⟨rfl, Ci hn hei hs4, s4, O4, fi.trans f34, hw4, ?_, hn2⟩))))
     have := (Bw _ _ _ hei (by omega)).2
     rw [this] at hn1; exact hn1
 · have hge : i = l.length := by simp at hf; omega
   subst hge
   refine AV V ha ⟨rfl, si, Oi, ?_, fi, hwi⟩
   rw [List.take_length] at hei; exact hei
theorem R7 {w0 : World} {S : Nat → Prop} {p most long : Nat} {l : List T} (h : ∀ t ∈ l, CC w0 S p most long 163 (.st .accum) t) : DH w0 S p most long 162 163 (.st .accum) l := by
 intro cs hr s O w hw hu
 obtain ⟨g, cap, hv, hml, hg⟩ := Cr hr
 rw [hv, C0]
 have hll := BW l
 obtain ⟨z, hz0, hzs⟩ : ∃ z, (∀ w, (zeroValue 151).run prog w = .ok z w) ∧ z.cells.size = 18 := ⟨_, zeroValue151, rfl⟩
 have hul : l.length < 18446744073709551616 := by omega
 obtain ⟨vb, hvb, hrb, hput⟩ := hw.put
 refine AB 29 func162 V V V ?_
 refine Af (Aa (Ac V V (Ac V V (As V V (Ab V (Bf _ _ _) V (Ai V (A4 CG hvb) V (Ac V V ?_)))))))
 refine AE V (Ay underlying31) V (AJ V (Bv runUnderlying3 runUnderlying164) V ?_)
 rw [Bz (by omega) (by omega)]
 refine Aj call97 V V (JN hrb hul (by have := B_ hul; simp only [WS.use] at hu; omega)) ?_ Be
 rintro v' w1 ⟨r1, f1⟩
 obtain ⟨w2, O2, hst, f2, hw2⟩ := hput v' w1 _ f1 r1
 refine As V V (Ab V (Bf _ _ _) V (An V V hst (Ar [(0, ptr p), (1, .slice g l.length cap), (2, .func (.func 163) #[ptr p] #[])] ⟨V, V, V, trivial⟩ ?_)))
 refine Af (Aa (Ac V V (AE V (Ay underlying31) V (Ac V V (Ae ?_)))))
 have hsu := Bq (s := s) hul
 refine A1 (AW (ι := Nat × WS × (Nat → Prop)) (fun i => [(0, ptr p), (2, .func (.func 163) #[ptr p] #[]), (19, .slice g l.length cap), (20, .int .i64 l.length), (21, .int .i64 i.1)])
  (fun i w' => i.1 ≤ l.length ∧ WSt w0 S p most long i.2.1 i.2.2 w' ∧ Fr O w i.2.2 w' ∧ BU most long (l.take i.1) (s.num l.length) = some i.2.1) (fun i => l.length - i.1)
  (0, s.num l.length, O2) ⟨V, V, V, V, V, trivial⟩ ⟨Nat.zero_le _, hw2, f2, rfl⟩ ?_)
 rintro ⟨i, si, Oi⟩ wi ⟨hi, hwi, fi, hei⟩
 simp only at hi hwi fi hei ⊢
 refine Af (Aa (Al V V V V (Ae (Af ?_))))
 refine AK V (fun ht => A_ fun a ha => Ad ?_) (fun hf => AQ fun a ha => Aq (Aq (A3 ?_)))
 · have hlt : i < l.length := by simp at ht; omega
   obtain ⟨t, hn⟩ : ∃ t, l[i]? = some t := ⟨_, List.getElem?_eq_getElem hlt⟩
   rcases hg with ⟨_, rfl⟩ | ⟨b, o, rfl, hS, hb, hrl⟩
   · simp at hlt
   obtain ⟨ds, hat, hlen, hrep⟩ := RepL.get hrl hn
   have hlen' : ds.length = 18 := hlen
   have hone := Rep.one _ _ _ hrep
   have hat2 := Cs hwi hS hb hat
   have hwt := Cb hn
   have hui := (Bw _ _ _ hei (by omega)).1
   refine (Af (A1 (Af (Aa (A0 V V (Bp underlying31 (Ds : By prog 151 true 18) (by omega) (by omega)) V ?_))))) a ha
   rw [Int.toNat_natCast]
   refine Ai V (Bg Ds hlen hat2) V (AO (hz0 _) V ?_)
   obtain ⟨w3, hst3, hb3, f3, hsz3⟩ := CV (P := prog) (w := wi) (v := .agg ds.toArray) (Ds : By prog 151 true 18) hzs hlen rfl hone.2
   have hw3 := hwi.other f3 (fun _ h => h.elim)
   refine An V V hst3 (Ae ?_)
   have hat3 := hb3.at_ 0 18
   rw [List.drop_zero, List.take_of_length_le (Nat.le_of_eq hlen')] at hat3
   refine Aa (Ac V V (Ai V (Bg Ds hlen hat3) V ?_))
   have hcall := h t (List.mem_of_getElem? hn) ds hrep si Oi w3 hw3 (by omega)
   refine B8 V call163 V V hcall ?_ ?_
   · rintro v w4 ⟨rfl, s4, O4, hs4, f4, hw4⟩
     refine A2 fun a ha => Az (Ad ((Aa (Al V V V V (Ac V V (A2 fun a ha => Ad ?_)))) a ha))
     have f34 : Fr Oi wi O4 w4 := (f3.drop (fun _ h => h.elim)).trans f4
     refine ⟨(i + 1, s4, O4), ha.weak ⟨rfl, rfl, rfl, rfl, ?_, trivial⟩, ⟨hlt, hw4, fi.trans f34, ?_⟩, by simp only; omega⟩
     · show some (Value.int .i64 (IntKind.i64.wrap ((i : Int) + 1))) = some (Value.int .i64 ((i + 1 : Nat) : Int))
       rw [B4 (by unfold Bu; omega)]; rfl
     · simp only; rw [BK hn, Bx, hei]; simp only [Option.bind_some, Cm]; exact hs4
   · rintro ch w4 ⟨rfl, hs4, s4, O4, f4, hw4, hn1, hn2⟩ a ha
     have f34 : Fr Oi wi O4 w4 := (f3.drop (fun _ h => h.elim)).trans f4
     refine AD (Am (Am (AD (Av ha ⟨rfl, Ci hn hei hs4, s4, O4, fi.trans f34, hw4, ?_, hn2⟩))))
     have := (Bw _ _ _ hei (by omega)).2
     rw [this] at hn1; exact hn1
 · have hge : i = l.length := by simp at hf; omega
   subst hge
   refine AV V ha ⟨rfl, si, Oi, ?_, fi, hwi⟩
   rw [List.take_length] at hei; exact hei
theorem QN {w0 : World} {S : Nat → Prop} {p most long : Nat} {l : List T} (h : ∀ t ∈ l, CC w0 S p most long 165 (.st .mode) t) : DH w0 S p most long 164 165 (.st .mode) l := by
 intro cs hr s O w hw hu
 obtain ⟨g, cap, hv, hml, hg⟩ := Cr hr
 rw [hv, C0]
 have hll := BW l
 obtain ⟨z, hz0, hzs⟩ : ∃ z, (∀ w, (zeroValue 84).run prog w = .ok z w) ∧ z.cells.size = 6 := ⟨_, zeroValue84, rfl⟩
 have hul : l.length < 18446744073709551616 := by omega
 obtain ⟨vb, hvb, hrb, hput⟩ := hw.put
 refine AB 29 func164 V V V ?_
 refine Af (Aa (Ac V V (Ac V V (As V V (Ab V (Bf _ _ _) V (Ai V (A4 CG hvb) V (Ac V V ?_)))))))
 refine AE V (Ay underlying32) V (AJ V (Bv runUnderlying3 runUnderlying164) V ?_)
 rw [Bz (by omega) (by omega)]
 refine Aj call97 V V (JN hrb hul (by have := B_ hul; simp only [WS.use] at hu; omega)) ?_ Be
 rintro v' w1 ⟨r1, f1⟩
 obtain ⟨w2, O2, hst, f2, hw2⟩ := hput v' w1 _ f1 r1
 refine As V V (Ab V (Bf _ _ _) V (An V V hst (Ar [(0, ptr p), (1, .slice g l.length cap), (2, .func (.func 165) #[ptr p] #[])] ⟨V, V, V, trivial⟩ ?_)))
 refine Af (Aa (Ac V V (AE V (Ay underlying32) V (Ac V V (Ae ?_)))))
 have hsu := Bq (s := s) hul
 refine A1 (AW (ι := Nat × WS × (Nat → Prop)) (fun i => [(0, ptr p), (2, .func (.func 165) #[ptr p] #[]), (19, .slice g l.length cap), (20, .int .i64 l.length), (21, .int .i64 i.1)])
  (fun i w' => i.1 ≤ l.length ∧ WSt w0 S p most long i.2.1 i.2.2 w' ∧ Fr O w i.2.2 w' ∧ BU most long (l.take i.1) (s.num l.length) = some i.2.1) (fun i => l.length - i.1)
  (0, s.num l.length, O2) ⟨V, V, V, V, V, trivial⟩ ⟨Nat.zero_le _, hw2, f2, rfl⟩ ?_)
 rintro ⟨i, si, Oi⟩ wi ⟨hi, hwi, fi, hei⟩
 simp only at hi hwi fi hei ⊢
 refine Af (Aa (Al V V V V (Ae (Af ?_))))
 refine AK V (fun ht => A_ fun a ha => Ad ?_) (fun hf => AQ fun a ha => Aq (Aq (A3 ?_)))
 · have hlt : i < l.length := by simp at ht; omega
   obtain ⟨t, hn⟩ : ∃ t, l[i]? = some t := ⟨_, List.getElem?_eq_getElem hlt⟩
   rcases hg with ⟨_, rfl⟩ | ⟨b, o, rfl, hS, hb, hrl⟩
   · simp at hlt
   obtain ⟨ds, hat, hlen, hrep⟩ := RepL.get hrl hn
   have hlen' : ds.length = 6 := hlen
   have hone := Rep.one _ _ _ hrep
   have hat2 := Cs hwi hS hb hat
   have hwt := Cb hn
   have hui := (Bw _ _ _ hei (by omega)).1
   refine (Af (A1 (Af (Aa (A0 V V (Bp underlying32 (Gz : By prog 84 true 6) (by omega) (by omega)) V ?_))))) a ha
   rw [Int.toNat_natCast]
   refine Ai V (Bg Gz hlen hat2) V (AO (hz0 _) V ?_)
   obtain ⟨w3, hst3, hb3, f3, hsz3⟩ := CV (P := prog) (w := wi) (v := .agg ds.toArray) (Gz : By prog 84 true 6) hzs hlen rfl hone.2
   have hw3 := hwi.other f3 (fun _ h => h.elim)
   refine An V V hst3 (Ae ?_)
   have hat3 := hb3.at_ 0 6
   rw [List.drop_zero, List.take_of_length_le (Nat.le_of_eq hlen')] at hat3
   refine Aa (Ac V V (Ai V (Bg Gz hlen hat3) V ?_))
   have hcall := h t (List.mem_of_getElem? hn) ds hrep si Oi w3 hw3 (by omega)
   refine B8 V call165 V V hcall ?_ ?_
   · rintro v w4 ⟨rfl, s4, O4, hs4, f4, hw4⟩
     refine A2 fun a ha => Az (Ad ((Aa (Al V V V V (Ac V V (A2 fun a ha => Ad ?_)))) a ha))
     have f34 : Fr Oi wi O4 w4 := (f3.drop (fun _ h => h.elim)).trans f4
     refine ⟨(i + 1, s4, O4), ha.weak ⟨rfl, rfl, rfl, rfl, ?_, trivial⟩, ⟨hlt, hw4, fi.trans f34, ?_⟩, by simp only; omega⟩
     · show some (Value.int .i64 (IntKind.i64.wrap ((i : Int) + 1))) = some (Value.int .i64 ((i + 1 : Nat) : Int))
       rw [B4 (by unfold Bu; omega)]; rfl
     · simp only; rw [BK hn, Bx, hei]; simp only [Option.bind_some, Cm]; exact hs4
   · rintro ch w4 ⟨rfl, hs4, s4, O4, f4, hw4, hn1, hn2⟩ a ha
     have f34 : Fr Oi wi O4 w4 := (f3.drop (fun _ h => h.elim)).trans f4
     refine AD (Am (Am (AD (Av ha ⟨rfl, Ci hn hei hs4, s4, O4, fi.trans f34, hw4, ?_, hn2⟩))))
     have := (Bw _ _ _ hei (by omega)).2
     rw [this] at hn1; exact hn1
 · have hge : i = l.length := by simp at hf; omega
   subst hge
   refine AV V ha ⟨rfl, si, Oi, ?_, fi, hwi⟩
   rw [List.take_length] at hei; exact hei
theorem QJ {w0 : World} {S : Nat → Prop} {p most long : Nat} {l : List T} (h : ∀ t ∈ l, CC w0 S p most long 167 (.st .output) t) : DH w0 S p most long 166 167 (.st .output) l := by
 intro cs hr s O w hw hu
 obtain ⟨g, cap, hv, hml, hg⟩ := Cr hr
 rw [hv, C0]
 have hll := BW l
 obtain ⟨z, hz0, hzs⟩ : ∃ z, (∀ w, (zeroValue 157).run prog w = .ok z w) ∧ z.cells.size = 5 := ⟨_, zeroValue157, rfl⟩
 have hul : l.length < 18446744073709551616 := by omega
 obtain ⟨vb, hvb, hrb, hput⟩ := hw.put
 refine AB 29 func166 V V V ?_
 refine Af (Aa (Ac V V (Ac V V (As V V (Ab V (Bf _ _ _) V (Ai V (A4 CG hvb) V (Ac V V ?_)))))))
 refine AE V (Ay underlying33) V (AJ V (Bv runUnderlying3 runUnderlying164) V ?_)
 rw [Bz (by omega) (by omega)]
 refine Aj call97 V V (JN hrb hul (by have := B_ hul; simp only [WS.use] at hu; omega)) ?_ Be
 rintro v' w1 ⟨r1, f1⟩
 obtain ⟨w2, O2, hst, f2, hw2⟩ := hput v' w1 _ f1 r1
 refine As V V (Ab V (Bf _ _ _) V (An V V hst (Ar [(0, ptr p), (1, .slice g l.length cap), (2, .func (.func 167) #[ptr p] #[])] ⟨V, V, V, trivial⟩ ?_)))
 refine Af (Aa (Ac V V (AE V (Ay underlying33) V (Ac V V (Ae ?_)))))
 have hsu := Bq (s := s) hul
 refine A1 (AW (ι := Nat × WS × (Nat → Prop)) (fun i => [(0, ptr p), (2, .func (.func 167) #[ptr p] #[]), (19, .slice g l.length cap), (20, .int .i64 l.length), (21, .int .i64 i.1)])
  (fun i w' => i.1 ≤ l.length ∧ WSt w0 S p most long i.2.1 i.2.2 w' ∧ Fr O w i.2.2 w' ∧ BU most long (l.take i.1) (s.num l.length) = some i.2.1) (fun i => l.length - i.1)
  (0, s.num l.length, O2) ⟨V, V, V, V, V, trivial⟩ ⟨Nat.zero_le _, hw2, f2, rfl⟩ ?_)
 rintro ⟨i, si, Oi⟩ wi ⟨hi, hwi, fi, hei⟩
 simp only at hi hwi fi hei ⊢
 refine Af (Aa (Al V V V V (Ae (Af ?_))))
 refine AK V (fun ht => A_ fun a ha => Ad ?_) (fun hf => AQ fun a ha => Aq (Aq (A3 ?_)))
 · have hlt : i < l.length := by simp at ht; omega
   obtain ⟨t, hn⟩ : ∃ t, l[i]? = some t := ⟨_, List.getElem?_eq_getElem hlt⟩
   rcases hg with ⟨_, rfl⟩ | ⟨b, o, rfl, hS, hb, hrl⟩
   · simp at hlt
   obtain ⟨ds, hat, hlen, hrep⟩ := RepL.get hrl hn
   have hlen' : ds.length = 5 := hlen
   have hone := Rep.one _ _ _ hrep
   have hat2 := Cs hwi hS hb hat
   have hwt := Cb hn
   have hui := (Bw _ _ _ hei (by omega)).1
   refine (Af (A1 (Af (Aa (A0 V V (Bp underlying33 (Dw : By prog 157 true 5) (by omega) (by omega)) V ?_))))) a ha
   rw [Int.toNat_natCast]
   refine Ai V (Bg Dw hlen hat2) V (AO (hz0 _) V ?_)
   obtain ⟨w3, hst3, hb3, f3, hsz3⟩ := CV (P := prog) (w := wi) (v := .agg ds.toArray) (Dw : By prog 157 true 5) hzs hlen rfl hone.2
   have hw3 := hwi.other f3 (fun _ h => h.elim)
   refine An V V hst3 (Ae ?_)
   have hat3 := hb3.at_ 0 5
   rw [List.drop_zero, List.take_of_length_le (Nat.le_of_eq hlen')] at hat3
   refine Aa (Ac V V (Ai V (Bg Dw hlen hat3) V ?_))
   have hcall := h t (List.mem_of_getElem? hn) ds hrep si Oi w3 hw3 (by omega)
   refine B8 V call167 V V hcall ?_ ?_
   · rintro v w4 ⟨rfl, s4, O4, hs4, f4, hw4⟩
     refine A2 fun a ha => Az (Ad ((Aa (Al V V V V (Ac V V (A2 fun a ha => Ad ?_)))) a ha))
     have f34 : Fr Oi wi O4 w4 := (f3.drop (fun _ h => h.elim)).trans f4
     refine ⟨(i + 1, s4, O4), ha.weak ⟨rfl, rfl, rfl, rfl, ?_, trivial⟩, ⟨hlt, hw4, fi.trans f34, ?_⟩, by simp only; omega⟩
     · show some (Value.int .i64 (IntKind.i64.wrap ((i : Int) + 1))) = some (Value.int .i64 ((i + 1 : Nat) : Int))
       rw [B4 (by unfold Bu; omega)]; rfl
     · simp only; rw [BK hn, Bx, hei]; simp only [Option.bind_some, Cm]; exact hs4
   · rintro ch w4 ⟨rfl, hs4, s4, O4, f4, hw4, hn1, hn2⟩ a ha
     have f34 : Fr Oi wi O4 w4 := (f3.drop (fun _ h => h.elim)).trans f4
     refine AD (Am (Am (AD (Av ha ⟨rfl, Ci hn hei hs4, s4, O4, fi.trans f34, hw4, ?_, hn2⟩))))
     have := (Bw _ _ _ hei (by omega)).2
     rw [this] at hn1; exact hn1
 · have hge : i = l.length := by simp at hf; omega
   subst hge
   refine AV V ha ⟨rfl, si, Oi, ?_, fi, hwi⟩
   rw [List.take_length] at hei; exact hei
theorem QT {w0 : World} {S : Nat → Prop} {p most long : Nat} {l : List T} (h : ∀ t ∈ l, CC w0 S p most long 169 (.st .charMap) t) : DH w0 S p most long 168 169 (.st .charMap) l := by
 intro cs hr s O w hw hu
 obtain ⟨g, cap, hv, hml, hg⟩ := Cr hr
 rw [hv, C0]
 have hll := BW l
 obtain ⟨z, hz0, hzs⟩ : ∃ z, (∀ w, (zeroValue 162).run prog w = .ok z w) ∧ z.cells.size = 2 := ⟨_, zeroValue162, rfl⟩
 have hul : l.length < 18446744073709551616 := by omega
 obtain ⟨vb, hvb, hrb, hput⟩ := hw.put
 refine AB 29 func168 V V V ?_
 refine Af (Aa (Ac V V (Ac V V (As V V (Ab V (Bf _ _ _) V (Ai V (A4 CG hvb) V (Ac V V ?_)))))))
 refine AE V (Ay underlying34) V (AJ V (Bv runUnderlying3 runUnderlying164) V ?_)
 rw [Bz (by omega) (by omega)]
 refine Aj call97 V V (JN hrb hul (by have := B_ hul; simp only [WS.use] at hu; omega)) ?_ Be
 rintro v' w1 ⟨r1, f1⟩
 obtain ⟨w2, O2, hst, f2, hw2⟩ := hput v' w1 _ f1 r1
 refine As V V (Ab V (Bf _ _ _) V (An V V hst (Ar [(0, ptr p), (1, .slice g l.length cap), (2, .func (.func 169) #[ptr p] #[])] ⟨V, V, V, trivial⟩ ?_)))
 refine Af (Aa (Ac V V (AE V (Ay underlying34) V (Ac V V (Ae ?_)))))
 have hsu := Bq (s := s) hul
 refine A1 (AW (ι := Nat × WS × (Nat → Prop)) (fun i => [(0, ptr p), (2, .func (.func 169) #[ptr p] #[]), (19, .slice g l.length cap), (20, .int .i64 l.length), (21, .int .i64 i.1)])
  (fun i w' => i.1 ≤ l.length ∧ WSt w0 S p most long i.2.1 i.2.2 w' ∧ Fr O w i.2.2 w' ∧ BU most long (l.take i.1) (s.num l.length) = some i.2.1) (fun i => l.length - i.1)
  (0, s.num l.length, O2) ⟨V, V, V, V, V, trivial⟩ ⟨Nat.zero_le _, hw2, f2, rfl⟩ ?_)
 rintro ⟨i, si, Oi⟩ wi ⟨hi, hwi, fi, hei⟩
 simp only at hi hwi fi hei ⊢
 refine Af (Aa (Al V V V V (Ae (Af ?_))))
 refine AK V (fun ht => A_ fun a ha => Ad ?_) (fun hf => AQ fun a ha => Aq (Aq (A3 ?_)))
 · have hlt : i < l.length := by simp at ht; omega
   obtain ⟨t, hn⟩ : ∃ t, l[i]? = some t := ⟨_, List.getElem?_eq_getElem hlt⟩
   rcases hg with ⟨_, rfl⟩ | ⟨b, o, rfl, hS, hb, hrl⟩
   · simp at hlt
   obtain ⟨ds, hat, hlen, hrep⟩ := RepL.get hrl hn
   have hlen' : ds.length = 2 := hlen
   have hone := Rep.one _ _ _ hrep
   have hat2 := Cs hwi hS hb hat
   have hwt := Cb hn
   have hui := (Bw _ _ _ hei (by omega)).1
   refine (Af (A1 (Af (Aa (A0 V V (Bp underlying34 (DF : By prog 162 true 2) (by omega) (by omega)) V ?_))))) a ha
   rw [Int.toNat_natCast]
   refine Ai V (Bg DF hlen hat2) V (AO (hz0 _) V ?_)
   obtain ⟨w3, hst3, hb3, f3, hsz3⟩ := CV (P := prog) (w := wi) (v := .agg ds.toArray) (DF : By prog 162 true 2) hzs hlen rfl hone.2
   have hw3 := hwi.other f3 (fun _ h => h.elim)
   refine An V V hst3 (Ae ?_)
   have hat3 := hb3.at_ 0 2
   rw [List.drop_zero, List.take_of_length_le (Nat.le_of_eq hlen')] at hat3
   refine Aa (Ac V V (Ai V (Bg DF hlen hat3) V ?_))
   have hcall := h t (List.mem_of_getElem? hn) ds hrep si Oi w3 hw3 (by omega)
   refine B8 V call169 V V hcall ?_ ?_
   · rintro v w4 ⟨rfl, s4, O4, hs4, f4, hw4⟩
     refine A2 fun a ha => Az (Ad ((Aa (Al V V V V (Ac V V (A2 fun a ha => Ad ?_)))) a ha))
     have f34 : Fr Oi wi O4 w4 := (f3.drop (fun _ h => h.elim)).trans f4
     refine ⟨(i + 1, s4, O4), ha.weak ⟨rfl, rfl, rfl, rfl, ?_, trivial⟩, ⟨hlt, hw4, fi.trans f34, ?_⟩, by simp only; omega⟩
     · show some (Value.int .i64 (IntKind.i64.wrap ((i : Int) + 1))) = some (Value.int .i64 ((i + 1 : Nat) : Int))
       rw [B4 (by unfold Bu; omega)]; rfl
     · simp only; rw [BK hn, Bx, hei]; simp only [Option.bind_some, Cm]; exact hs4
   · rintro ch w4 ⟨rfl, hs4, s4, O4, f4, hw4, hn1, hn2⟩ a ha
     have f34 : Fr Oi wi O4 w4 := (f3.drop (fun _ h => h.elim)).trans f4
     refine AD (Am (Am (AD (Av ha ⟨rfl, Ci hn hei hs4, s4, O4, fi.trans f34, hw4, ?_, hn2⟩))))
     have := (Bw _ _ _ hei (by omega)).2
     rw [this] at hn1; exact hn1
 · have hge : i = l.length := by simp at hf; omega
   subst hge
   refine AV V ha ⟨rfl, si, Oi, ?_, fi, hwi⟩
   rw [List.take_length] at hei; exact hei
theorem OB {w0 : World} {S : Nat → Prop} {p most long : Nat} {l : List T} (h : ∀ t ∈ l, CC w0 S p most long 209 (.st .expr) t) : DH w0 S p most long 208 209 (.st .expr) l := by
 intro cs hr s O w hw hu
 obtain ⟨g, cap, hv, hml, hg⟩ := Cr hr
 rw [hv, C0]
 have hll := BW l
 obtain ⟨z, hz0, hzs⟩ : ∃ z, (∀ w, (zeroValue 66).run prog w = .ok z w) ∧ z.cells.size = 16 := ⟨_, zeroValue66, rfl⟩
 have hul : l.length < 18446744073709551616 := by omega
 obtain ⟨vb, hvb, hrb, hput⟩ := hw.put
 refine AB 29 func208 V V V ?_
 refine Af (Aa (Ac V V (Ac V V (As V V (Ab V (Bf _ _ _) V (Ai V (A4 CG hvb) V (Ac V V ?_)))))))
 refine AE V (Ay underlying64) V (AJ V (Bv runUnderlying3 runUnderlying164) V ?_)
 rw [Bz (by omega) (by omega)]
 refine Aj call97 V V (JN hrb hul (by have := B_ hul; simp only [WS.use] at hu; omega)) ?_ Be
 rintro v' w1 ⟨r1, f1⟩
 obtain ⟨w2, O2, hst, f2, hw2⟩ := hput v' w1 _ f1 r1
 refine As V V (Ab V (Bf _ _ _) V (An V V hst (Ar [(0, ptr p), (1, .slice g l.length cap), (2, .func (.func 209) #[ptr p] #[])] ⟨V, V, V, trivial⟩ ?_)))
 refine Af (Aa (Ac V V (AE V (Ay underlying64) V (Ac V V (Ae ?_)))))
 have hsu := Bq (s := s) hul
 refine A1 (AW (ι := Nat × WS × (Nat → Prop)) (fun i => [(0, ptr p), (2, .func (.func 209) #[ptr p] #[]), (19, .slice g l.length cap), (20, .int .i64 l.length), (21, .int .i64 i.1)])
  (fun i w' => i.1 ≤ l.length ∧ WSt w0 S p most long i.2.1 i.2.2 w' ∧ Fr O w i.2.2 w' ∧ BU most long (l.take i.1) (s.num l.length) = some i.2.1) (fun i => l.length - i.1)
  (0, s.num l.length, O2) ⟨V, V, V, V, V, trivial⟩ ⟨Nat.zero_le _, hw2, f2, rfl⟩ ?_)
 rintro ⟨i, si, Oi⟩ wi ⟨hi, hwi, fi, hei⟩
 simp only at hi hwi fi hei ⊢
 refine Af (Aa (Al V V V V (Ae (Af ?_))))
 refine AK V (fun ht => A_ fun a ha => Ad ?_) (fun hf => AQ fun a ha => Aq (Aq (A3 ?_)))
 · have hlt : i < l.length := by simp at ht; omega
   obtain ⟨t, hn⟩ : ∃ t, l[i]? = some t := ⟨_, List.getElem?_eq_getElem hlt⟩
   rcases hg with ⟨_, rfl⟩ | ⟨b, o, rfl, hS, hb, hrl⟩
   · simp at hlt
   obtain ⟨ds, hat, hlen, hrep⟩ := RepL.get hrl hn
   have hlen' : ds.length = 16 := hlen
   have hone := Rep.one _ _ _ hrep
   have hat2 := Cs hwi hS hb hat
   have hwt := Cb hn
   have hui := (Bw _ _ _ hei (by omega)).1
   refine (Af (A1 (Af (Aa (A0 V V (Bp underlying64 (BY : By prog 66 true 16) (by omega) (by omega)) V ?_))))) a ha
   rw [Int.toNat_natCast]
   refine Ai V (Bg BY hlen hat2) V (AO (hz0 _) V ?_)
   obtain ⟨w3, hst3, hb3, f3, hsz3⟩ := CV (P := prog) (w := wi) (v := .agg ds.toArray) (BY : By prog 66 true 16) hzs hlen rfl hone.2
   have hw3 := hwi.other f3 (fun _ h => h.elim)
   refine An V V hst3 (Ae ?_)
   have hat3 := hb3.at_ 0 16
   rw [List.drop_zero, List.take_of_length_le (Nat.le_of_eq hlen')] at hat3
   refine Aa (Ac V V (Ai V (Bg BY hlen hat3) V ?_))
   have hcall := h t (List.mem_of_getElem? hn) ds hrep si Oi w3 hw3 (by omega)
   refine B8 V call209 V V hcall ?_ ?_
   · rintro v w4 ⟨rfl, s4, O4, hs4, f4, hw4⟩
     refine A2 fun a ha => Az (Ad ((Aa (Al V V V V (Ac V V (A2 fun a ha => Ad ?_)))) a ha))
     have f34 : Fr Oi wi O4 w4 := (f3.drop (fun _ h => h.elim)).trans f4
     refine ⟨(i + 1, s4, O4), ha.weak ⟨rfl, rfl, rfl, rfl, ?_, trivial⟩, ⟨hlt, hw4, fi.trans f34, ?_⟩, by simp only; omega⟩
     · show some (Value.int .i64 (IntKind.i64.wrap ((i : Int) + 1))) = some (Value.int .i64 ((i + 1 : Nat) : Int))
       rw [B4 (by unfold Bu; omega)]; rfl
     · simp only; rw [BK hn, Bx, hei]; simp only [Option.bind_some, Cm]; exact hs4
   · rintro ch w4 ⟨rfl, hs4, s4, O4, f4, hw4, hn1, hn2⟩ a ha
     have f34 : Fr Oi wi O4 w4 := (f3.drop (fun _ h => h.elim)).trans f4
     refine AD (Am (Am (AD (Av ha ⟨rfl, Ci hn hei hs4, s4, O4, fi.trans f34, hw4, ?_, hn2⟩))))
     have := (Bw _ _ _ hei (by omega)).2
     rw [this] at hn1; exact hn1
 · have hge : i = l.length := by simp at hf; omega
   subst hge
   refine AV V ha ⟨rfl, si, Oi, ?_, fi, hwi⟩
   rw [List.take_length] at hei; exact hei
theorem O_ {w0 : World} {S : Nat → Prop} {p most long : Nat} {l : List T} (h : ∀ t ∈ l, CC w0 S p most long 151 (.str) t) : DH w0 S p most long 210 151 (.str) l := by
 intro cs hr s O w hw hu
 obtain ⟨g, cap, hv, hml, hg⟩ := Cr hr
 rw [hv, C0]
 have hll := BW l
 have hul : l.length < 18446744073709551616 := by omega
 obtain ⟨vb, hvb, hrb, hput⟩ := hw.put
 refine AB 29 func210 V V V ?_
 refine Af (Aa (Ac V V (Ac V V (As V V (Ab V (Bf _ _ _) V (Ai V (A4 CG hvb) V (Ac V V ?_)))))))
 refine AE V (Ay underlying44) V (AJ V (Bv runUnderlying3 runUnderlying164) V ?_)
 rw [Bz (by omega) (by omega)]
 refine Aj call97 V V (JN hrb hul (by have := B_ hul; simp only [WS.use] at hu; omega)) ?_ Be
 rintro v' w1 ⟨r1, f1⟩
 obtain ⟨w2, O2, hst, f2, hw2⟩ := hput v' w1 _ f1 r1
 refine As V V (Ab V (Bf _ _ _) V (An V V hst (Ar [(0, ptr p), (1, .slice g l.length cap), (2, .func (.func 151) #[ptr p] #[])] ⟨V, V, V, trivial⟩ ?_)))
 refine Af (Aa (Ac V V (AE V (Ay underlying44) V (Ac V V (Ae ?_)))))
 have hsu := Bq (s := s) hul
 refine A1 (AW (ι := Nat × WS × (Nat → Prop)) (fun i => [(0, ptr p), (2, .func (.func 151) #[ptr p] #[]), (19, .slice g l.length cap), (20, .int .i64 l.length), (21, .int .i64 i.1)])
  (fun i w' => i.1 ≤ l.length ∧ WSt w0 S p most long i.2.1 i.2.2 w' ∧ Fr O w i.2.2 w' ∧ BU most long (l.take i.1) (s.num l.length) = some i.2.1) (fun i => l.length - i.1)
  (0, s.num l.length, O2) ⟨V, V, V, V, V, trivial⟩ ⟨Nat.zero_le _, hw2, f2, rfl⟩ ?_)
 rintro ⟨i, si, Oi⟩ wi ⟨hi, hwi, fi, hei⟩
 simp only at hi hwi fi hei ⊢
 refine Af (Aa (Al V V V V (Ae (Af ?_))))
 refine AK V (fun ht => A_ fun a ha => Ad ?_) (fun hf => AQ fun a ha => Aq (Aq (A3 ?_)))
 · have hlt : i < l.length := by simp at ht; omega
   obtain ⟨t, hn⟩ : ∃ t, l[i]? = some t := ⟨_, List.getElem?_eq_getElem hlt⟩
   rcases hg with ⟨_, rfl⟩ | ⟨b, o, rfl, hS, hb, hrl⟩
   · simp at hlt
   obtain ⟨ds, hat, hlen, hrep⟩ := RepL.get hrl hn
   have hlen' : ds.length = 1 := hlen
   have hat2 := Cs hwi hS hb hat
   have hwt := Cb hn
   have hui := (Bw _ _ _ hei (by omega)).1
   refine (Af (A1 (Af (Aa (A0 V V (Bp underlying44 (Cc : By prog 9 false 1) (by omega) (by omega)) V ?_))))) a ha
   rw [Int.toNat_natCast]
   obtain ⟨x, rfl⟩ := List.length_eq_one_iff.1 hlen'
   refine Ai V (A4 (Cc : By prog 9 false 1) (hat2 0 x V)) V (Ah V V (Ae ?_))
   refine Aa (Ac V V (Ac V V ?_))
   have hcall := h t (List.mem_of_getElem? hn) [x] hrep si Oi wi hwi (by omega)
   refine B8 V call151 V V hcall ?_ ?_
   · rintro v w4 ⟨rfl, s4, O4, hs4, f4, hw4⟩
     refine A2 fun a ha => Az (Ad ((Aa (Al V V V V (Ac V V (A2 fun a ha => Ad ?_)))) a ha))
     refine ⟨(i + 1, s4, O4), ha.weak ⟨rfl, rfl, rfl, rfl, ?_, trivial⟩, ⟨hlt, hw4, fi.trans f4, ?_⟩, by simp only; omega⟩
     · show some (Value.int .i64 (IntKind.i64.wrap ((i : Int) + 1))) = some (Value.int .i64 ((i + 1 : Nat) : Int))
       rw [B4 (by unfold Bu; omega)]; rfl
     · simp only; rw [BK hn, Bx, hei]; simp only [Option.bind_some, Cm]; exact hs4
   · rintro ch w4 ⟨rfl, hs4, s4, O4, f4, hw4, hn1, hn2⟩ a ha
     refine AD (Am (Am (AD (Av ha ⟨rfl, Ci hn hei hs4, s4, O4, fi.trans f4, hw4, ?_, hn2⟩))))
     have := (Bw _ _ _ hei (by omega)).2
     rw [this] at hn1; exact hn1
 · have hge : i = l.length := by simp at hf; omega
   subst hge
   refine AV V ha ⟨rfl, si, Oi, ?_, fi, hwi⟩
   rw [List.take_length] at hei; exact hei
theorem Pt {w0 : World} {S : Nat → Prop} {p most long : Nat} {l : List T} (h : ∀ t ∈ l, CC w0 S p most long 212 (.st .param) t) : DH w0 S p most long 211 212 (.st .param) l := by
 intro cs hr s O w hw hu
 obtain ⟨g, cap, hv, hml, hg⟩ := Cr hr
 rw [hv, C0]
 have hll := BW l
 obtain ⟨z, hz0, hzs⟩ : ∃ z, (∀ w, (zeroValue 216).run prog w = .ok z w) ∧ z.cells.size = 24 := ⟨_, zeroValue216, rfl⟩
 have hul : l.length < 18446744073709551616 := by omega
 obtain ⟨vb, hvb, hrb, hput⟩ := hw.put
 refine AB 29 func211 V V V ?_
 refine Af (Aa (Ac V V (Ac V V (As V V (Ab V (Bf _ _ _) V (Ai V (A4 CG hvb) V (Ac V V ?_)))))))
 refine AE V (Ay underlying68) V (AJ V (Bv runUnderlying3 runUnderlying164) V ?_)
 rw [Bz (by omega) (by omega)]
 refine Aj call97 V V (JN hrb hul (by have := B_ hul; simp only [WS.use] at hu; omega)) ?_ Be
 rintro v' w1 ⟨r1, f1⟩
 obtain ⟨w2, O2, hst, f2, hw2⟩ := hput v' w1 _ f1 r1
 refine As V V (Ab V (Bf _ _ _) V (An V V hst (Ar [(0, ptr p), (1, .slice g l.length cap), (2, .func (.func 212) #[ptr p] #[])] ⟨V, V, V, trivial⟩ ?_)))
 refine Af (Aa (Ac V V (AE V (Ay underlying68) V (Ac V V (Ae ?_)))))
 have hsu := Bq (s := s) hul
 refine A1 (AW (ι := Nat × WS × (Nat → Prop)) (fun i => [(0, ptr p), (2, .func (.func 212) #[ptr p] #[]), (19, .slice g l.length cap), (20, .int .i64 l.length), (21, .int .i64 i.1)])
  (fun i w' => i.1 ≤ l.length ∧ WSt w0 S p most long i.2.1 i.2.2 w' ∧ Fr O w i.2.2 w' ∧ BU most long (l.take i.1) (s.num l.length) = some i.2.1) (fun i => l.length - i.1)
  (0, s.num l.length, O2) ⟨V, V, V, V, V, trivial⟩ ⟨Nat.zero_le _, hw2, f2, rfl⟩ ?_)
 rintro ⟨i, si, Oi⟩ wi ⟨hi, hwi, fi, hei⟩
 simp only at hi hwi fi hei ⊢
 refine Af (Aa (Al V V V V (Ae (Af ?_))))
 refine AK V (fun ht => A_ fun a ha => Ad ?_) (fun hf => AQ fun a ha => Aq (Aq (A3 ?_)))
 · have hlt : i < l.length := by simp at ht; omega
   obtain ⟨t, hn⟩ : ∃ t, l[i]? = some t := ⟨_, List.getElem?_eq_getElem hlt⟩
   rcases hg with ⟨_, rfl⟩ | ⟨b, o, rfl, hS, hb, hrl⟩
   · simp at hlt
   obtain ⟨ds, hat, hlen, hrep⟩ := RepL.get hrl hn
   have hlen' : ds.length = 24 := hlen
   have hone := Rep.one _ _ _ hrep
   have hat2 := Cs hwi hS hb hat
   have hwt := Cb hn
   have hui := (Bw _ _ _ hei (by omega)).1
   refine (Af (A1 (Af (Aa (A0 V V (Bp underlying68 (D2 : By prog 216 true 24) (by omega) (by omega)) V ?_))))) a ha
   rw [Int.toNat_natCast]
   refine Ai V (Bg D2 hlen hat2) V (AO (hz0 _) V ?_)
   obtain ⟨w3, hst3, hb3, f3, hsz3⟩ := CV (P := prog) (w := wi) (v := .agg ds.toArray) (D2 : By prog 216 true 24) hzs hlen rfl hone.2
   have hw3 := hwi.other f3 (fun _ h => h.elim)
   refine An V V hst3 (Ae ?_)
   have hat3 := hb3.at_ 0 24
   rw [List.drop_zero, List.take_of_length_le (Nat.le_of_eq hlen')] at hat3
   refine Aa (Ac V V (Ai V (Bg D2 hlen hat3) V ?_))
   have hcall := h t (List.mem_of_getElem? hn) ds hrep si Oi w3 hw3 (by omega)
   refine B8 V call212 V V hcall ?_ ?_
   · rintro v w4 ⟨rfl, s4, O4, hs4, f4, hw4⟩
     refine A2 fun a ha => Az (Ad ((Aa (Al V V V V (Ac V V (A2 fun a ha => Ad ?_)))) a ha))
     have f34 : Fr Oi wi O4 w4 := (f3.drop (fun _ h => h.elim)).trans f4
     refine ⟨(i + 1, s4, O4), ha.weak ⟨rfl, rfl, rfl, rfl, ?_, trivial⟩, ⟨hlt, hw4, fi.trans f34, ?_⟩, by simp only; omega⟩
     · show some (Value.int .i64 (IntKind.i64.wrap ((i : Int) + 1))) = some (Value.int .i64 ((i + 1 : Nat) : Int))
       rw [B4 (by unfold Bu; omega)]; rfl
     · simp only; rw [BK hn, Bx, hei]; simp only [Option.bind_some, Cm]; exact hs4
   · rintro ch w4 ⟨rfl, hs4, s4, O4, f4, hw4, hn1, hn2⟩ a ha
     have f34 : Fr Oi wi O4 w4 := (f3.drop (fun _ h => h.elim)).trans f4
     refine AD (Am (Am (AD (Av ha ⟨rfl, Ci hn hei hs4, s4, O4, fi.trans f34, hw4, ?_, hn2⟩))))
     have := (Bw _ _ _ hei (by omega)).2
     rw [this] at hn1; exact hn1
 · have hge : i = l.length := by simp at hf; omega
   subst hge
   refine AV V ha ⟨rfl, si, Oi, ?_, fi, hwi⟩
   rw [List.take_length] at hei; exact hei
theorem Nh {w0 : World} {S : Nat → Prop} {p most long : Nat} {l : List T} (h : ∀ t ∈ l, CC w0 S p most long 214 (.st .instr) t) : DH w0 S p most long 213 214 (.st .instr) l := by
 intro cs hr s O w hw hu
 obtain ⟨g, cap, hv, hml, hg⟩ := Cr hr
 rw [hv, C0]
 have hll := BW l
 obtain ⟨z, hz0, hzs⟩ : ∃ z, (∀ w, (zeroValue 72).run prog w = .ok z w) ∧ z.cells.size = 51 := ⟨_, zeroValue72, rfl⟩
 have hul : l.length < 18446744073709551616 := by omega
 obtain ⟨vb, hvb, hrb, hput⟩ := hw.put
 refine AB 29 func213 V V V ?_
 refine Af (Aa (Ac V V (Ac V V (As V V (Ab V (Bf _ _ _) V (Ai V (A4 CG hvb) V (Ac V V ?_)))))))
 refine AE V (Ay underlying56) V (AJ V (Bv runUnderlying3 runUnderlying164) V ?_)
 rw [Bz (by omega) (by omega)]
 refine Aj call97 V V (JN hrb hul (by have := B_ hul; simp only [WS.use] at hu; omega)) ?_ Be
 rintro v' w1 ⟨r1, f1⟩
 obtain ⟨w2, O2, hst, f2, hw2⟩ := hput v' w1 _ f1 r1
 refine As V V (Ab V (Bf _ _ _) V (An V V hst (Ar [(0, ptr p), (1, .slice g l.length cap), (2, .func (.func 214) #[ptr p] #[])] ⟨V, V, V, trivial⟩ ?_)))
 refine Af (Aa (Ac V V (AE V (Ay underlying56) V (Ac V V (Ae ?_)))))
 have hsu := Bq (s := s) hul
 refine A1 (AW (ι := Nat × WS × (Nat → Prop)) (fun i => [(0, ptr p), (2, .func (.func 214) #[ptr p] #[]), (19, .slice g l.length cap), (20, .int .i64 l.length), (21, .int .i64 i.1)])
  (fun i w' => i.1 ≤ l.length ∧ WSt w0 S p most long i.2.1 i.2.2 w' ∧ Fr O w i.2.2 w' ∧ BU most long (l.take i.1) (s.num l.length) = some i.2.1) (fun i => l.length - i.1)
  (0, s.num l.length, O2) ⟨V, V, V, V, V, trivial⟩ ⟨Nat.zero_le _, hw2, f2, rfl⟩ ?_)
 rintro ⟨i, si, Oi⟩ wi ⟨hi, hwi, fi, hei⟩
 simp only at hi hwi fi hei ⊢
 refine Af (Aa (Al V V V V (Ae (Af ?_))))
 refine AK V (fun ht => A_ fun a ha => Ad ?_) (fun hf => AQ fun a ha => Aq (Aq (A3 ?_)))
 · have hlt : i < l.length := by simp at ht; omega
   obtain ⟨t, hn⟩ : ∃ t, l[i]? = some t := ⟨_, List.getElem?_eq_getElem hlt⟩
   rcases hg with ⟨_, rfl⟩ | ⟨b, o, rfl, hS, hb, hrl⟩
   · simp at hlt
   obtain ⟨ds, hat, hlen, hrep⟩ := RepL.get hrl hn
   have hlen' : ds.length = 51 := hlen
   have hone := Rep.one _ _ _ hrep
   have hat2 := Cs hwi hS hb hat
   have hwt := Cb hn
   have hui := (Bw _ _ _ hei (by omega)).1
   refine (Af (A1 (Af (Aa (A0 V V (Bp underlying56 (Hh : By prog 72 true 51) (by omega) (by omega)) V ?_))))) a ha
   rw [Int.toNat_natCast]
   refine Ai V (Bg Hh hlen hat2) V (AO (hz0 _) V ?_)
   obtain ⟨w3, hst3, hb3, f3, hsz3⟩ := CV (P := prog) (w := wi) (v := .agg ds.toArray) (Hh : By prog 72 true 51) hzs hlen rfl hone.2
   have hw3 := hwi.other f3 (fun _ h => h.elim)
   refine An V V hst3 (Ae ?_)
   have hat3 := hb3.at_ 0 51
   rw [List.drop_zero, List.take_of_length_le (Nat.le_of_eq hlen')] at hat3
   refine Aa (Ac V V (Ai V (Bg Hh hlen hat3) V ?_))
   have hcall := h t (List.mem_of_getElem? hn) ds hrep si Oi w3 hw3 (by omega)
   refine B8 V call214 V V hcall ?_ ?_
   · rintro v w4 ⟨rfl, s4, O4, hs4, f4, hw4⟩
     refine A2 fun a ha => Az (Ad ((Aa (Al V V V V (Ac V V (A2 fun a ha => Ad ?_)))) a ha))
     have f34 : Fr Oi wi O4 w4 := (f3.drop (fun _ h => h.elim)).trans f4
     refine ⟨(i + 1, s4, O4), ha.weak ⟨rfl, rfl, rfl, rfl, ?_, trivial⟩, ⟨hlt, hw4, fi.trans f34, ?_⟩, by simp only; omega⟩
     · show some (Value.int .i64 (IntKind.i64.wrap ((i : Int) + 1))) = some (Value.int .i64 ((i + 1 : Nat) : Int))
       rw [B4 (by unfold Bu; omega)]; rfl
     · simp only; rw [BK hn, Bx, hei]; simp only [Option.bind_some, Cm]; exact hs4
   · rintro ch w4 ⟨rfl, hs4, s4, O4, f4, hw4, hn1, hn2⟩ a ha
     have f34 : Fr Oi wi O4 w4 := (f3.drop (fun _ h => h.elim)).trans f4
     refine AD (Am (Am (AD (Av ha ⟨rfl, Ci hn hei hs4, s4, O4, fi.trans f34, hw4, ?_, hn2⟩))))
     have := (Bw _ _ _ hei (by omega)).2
     rw [this] at hn1; exact hn1
 · have hge : i = l.length := by simp at hf; omega
   subst hge
   refine AV V ha ⟨rfl, si, Oi, ?_, fi, hwi⟩
   rw [List.take_length] at hei; exact hei
theorem QV {w0 : World} {S : Nat → Prop} {p most long : Nat} {l : List T} (h : ∀ t ∈ l, CC w0 S p most long 217 (.st .rule) t) : DH w0 S p most long 216 217 (.st .rule) l := by
 intro cs hr s O w hw hu
 obtain ⟨g, cap, hv, hml, hg⟩ := Cr hr
 rw [hv, C0]
 have hll := BW l
 obtain ⟨z, hz0, hzs⟩ : ∃ z, (∀ w, (zeroValue 182).run prog w = .ok z w) ∧ z.cells.size = 18 := ⟨_, zeroValue182, rfl⟩
 have hul : l.length < 18446744073709551616 := by omega
 obtain ⟨vb, hvb, hrb, hput⟩ := hw.put
 refine AB 29 func216 V V V ?_
 refine Af (Aa (Ac V V (Ac V V (As V V (Ab V (Bf _ _ _) V (Ai V (A4 CG hvb) V (Ac V V ?_)))))))
 refine AE V (Ay underlying149) V (AJ V (Bv runUnderlying3 runUnderlying164) V ?_)
 rw [Bz (by omega) (by omega)]
 refine Aj call97 V V (JN hrb hul (by have := B_ hul; simp only [WS.use] at hu; omega)) ?_ Be
 rintro v' w1 ⟨r1, f1⟩
 obtain ⟨w2, O2, hst, f2, hw2⟩ := hput v' w1 _ f1 r1
 refine As V V (Ab V (Bf _ _ _) V (An V V hst (Ar [(0, ptr p), (1, .slice g l.length cap), (2, .func (.func 217) #[ptr p] #[])] ⟨V, V, V, trivial⟩ ?_)))
 refine Af (Aa (Ac V V (AE V (Ay underlying149) V (Ac V V (Ae ?_)))))
 have hsu := Bq (s := s) hul
 refine A1 (AW (ι := Nat × WS × (Nat → Prop)) (fun i => [(0, ptr p), (2, .func (.func 217) #[ptr p] #[]), (19, .slice g l.length cap), (20, .int .i64 l.length), (21, .int .i64 i.1)])
  (fun i w' => i.1 ≤ l.length ∧ WSt w0 S p most long i.2.1 i.2.2 w' ∧ Fr O w i.2.2 w' ∧ BU most long (l.take i.1) (s.num l.length) = some i.2.1) (fun i => l.length - i.1)
  (0, s.num l.length, O2) ⟨V, V, V, V, V, trivial⟩ ⟨Nat.zero_le _, hw2, f2, rfl⟩ ?_)
 rintro ⟨i, si, Oi⟩ wi ⟨hi, hwi, fi, hei⟩
 simp only at hi hwi fi hei ⊢
 refine Af (Aa (Al V V V V (Ae (Af ?_))))
 refine AK V (fun ht => A_ fun a ha => Ad ?_) (fun hf => AQ fun a ha => Aq (Aq (A3 ?_)))
 · have hlt : i < l.length := by simp at ht; omega
   obtain ⟨t, hn⟩ : ∃ t, l[i]? = some t := ⟨_, List.getElem?_eq_getElem hlt⟩
   rcases hg with ⟨_, rfl⟩ | ⟨b, o, rfl, hS, hb, hrl⟩
   · simp at hlt
   obtain ⟨ds, hat, hlen, hrep⟩ := RepL.get hrl hn
   have hlen' : ds.length = 18 := hlen
   have hone := Rep.one _ _ _ hrep
   have hat2 := Cs hwi hS hb hat
   have hwt := Cb hn
   have hui := (Bw _ _ _ hei (by omega)).1
   refine (Af (A1 (Af (Aa (A0 V V (Bp underlying149 (Ew : By prog 182 true 18) (by omega) (by omega)) V ?_))))) a ha
   rw [Int.toNat_natCast]
   refine Ai V (Bg Ew hlen hat2) V (AO (hz0 _) V ?_)
   obtain ⟨w3, hst3, hb3, f3, hsz3⟩ := CV (P := prog) (w := wi) (v := .agg ds.toArray) (Ew : By prog 182 true 18) hzs hlen rfl hone.2
   have hw3 := hwi.other f3 (fun _ h => h.elim)
   refine An V V hst3 (Ae ?_)
   have hat3 := hb3.at_ 0 18
   rw [List.drop_zero, List.take_of_length_le (Nat.le_of_eq hlen')] at hat3
   refine Aa (Ac V V (Ai V (Bg Ew hlen hat3) V ?_))
   have hcall := h t (List.mem_of_getElem? hn) ds hrep si Oi w3 hw3 (by omega)
   refine B8 V call217 V V hcall ?_ ?_
   · rintro v w4 ⟨rfl, s4, O4, hs4, f4, hw4⟩
     refine A2 fun a ha => Az (Ad ((Aa (Al V V V V (Ac V V (A2 fun a ha => Ad ?_)))) a ha))
     have f34 : Fr Oi wi O4 w4 := (f3.drop (fun _ h => h.elim)).trans f4
     refine ⟨(i + 1, s4, O4), ha.weak ⟨rfl, rfl, rfl, rfl, ?_, trivial⟩, ⟨hlt, hw4, fi.trans f34, ?_⟩, by simp only; omega⟩
     · show some (Value.int .i64 (IntKind.i64.wrap ((i : Int) + 1))) = some (Value.int .i64 ((i + 1 : Nat) : Int))
       rw [B4 (by unfold Bu; omega)]; rfl
     · simp only; rw [BK hn, Bx, hei]; simp only [Option.bind_some, Cm]; exact hs4
   · rintro ch w4 ⟨rfl, hs4, s4, O4, f4, hw4, hn1, hn2⟩ a ha
     have f34 : Fr Oi wi O4 w4 := (f3.drop (fun _ h => h.elim)).trans f4
     refine AD (Am (Am (AD (Av ha ⟨rfl, Ci hn hei hs4, s4, O4, fi.trans f34, hw4, ?_, hn2⟩))))
     have := (Bw _ _ _ hei (by omega)).2
     rw [this] at hn1; exact hn1
 · have hge : i = l.length := by simp at hf; omega
   subst hge
   refine AV V ha ⟨rfl, si, Oi, ?_, fi, hwi⟩
   rw [List.take_length] at hei; exact hei
theorem Rc {w0 : World} {S : Nat → Prop} {p most long : Nat} {l : List T} (h : ∀ t ∈ l, CC w0 S p most long 220 (.st .swap) t) : DH w0 S p most long 219 220 (.st .swap) l := by
 intro cs hr s O w hw hu
 obtain ⟨g, cap, hv, hml, hg⟩ := Cr hr
 rw [hv, C0]
 have hll := BW l
 obtain ⟨z, hz0, hzs⟩ : ∃ z, (∀ w, (zeroValue 170).run prog w = .ok z w) ∧ z.cells.size = 2 := ⟨_, zeroValue170, rfl⟩
 have hul : l.length < 18446744073709551616 := by omega
 obtain ⟨vb, hvb, hrb, hput⟩ := hw.put
 refine AB 29 func219 V V V ?_
 refine Af (Aa (Ac V V (Ac V V (As V V (Ab V (Bf _ _ _) V (Ai V (A4 CG hvb) V (Ac V V ?_)))))))
 refine AE V (Ay underlying160) V (AJ V (Bv runUnderlying3 runUnderlying164) V ?_)
 rw [Bz (by omega) (by omega)]
 refine Aj call97 V V (JN hrb hul (by have := B_ hul; simp only [WS.use] at hu; omega)) ?_ Be
 rintro v' w1 ⟨r1, f1⟩
 obtain ⟨w2, O2, hst, f2, hw2⟩ := hput v' w1 _ f1 r1
 refine As V V (Ab V (Bf _ _ _) V (An V V hst (Ar [(0, ptr p), (1, .slice g l.length cap), (2, .func (.func 220) #[ptr p] #[])] ⟨V, V, V, trivial⟩ ?_)))
 refine Af (Aa (Ac V V (AE V (Ay underlying160) V (Ac V V (Ae ?_)))))
 have hsu := Bq (s := s) hul
 refine A1 (AW (ι := Nat × WS × (Nat → Prop)) (fun i => [(0, ptr p), (2, .func (.func 220) #[ptr p] #[]), (19, .slice g l.length cap), (20, .int .i64 l.length), (21, .int .i64 i.1)])
  (fun i w' => i.1 ≤ l.length ∧ WSt w0 S p most long i.2.1 i.2.2 w' ∧ Fr O w i.2.2 w' ∧ BU most long (l.take i.1) (s.num l.length) = some i.2.1) (fun i => l.length - i.1)
  (0, s.num l.length, O2) ⟨V, V, V, V, V, trivial⟩ ⟨Nat.zero_le _, hw2, f2, rfl⟩ ?_)
 rintro ⟨i, si, Oi⟩ wi ⟨hi, hwi, fi, hei⟩
 simp only at hi hwi fi hei ⊢
 refine Af (Aa (Al V V V V (Ae (Af ?_))))
 refine AK V (fun ht => A_ fun a ha => Ad ?_) (fun hf => AQ fun a ha => Aq (Aq (A3 ?_)))
 · have hlt : i < l.length := by simp at ht; omega
   obtain ⟨t, hn⟩ : ∃ t, l[i]? = some t := ⟨_, List.getElem?_eq_getElem hlt⟩
   rcases hg with ⟨_, rfl⟩ | ⟨b, o, rfl, hS, hb, hrl⟩
   · simp at hlt
   obtain ⟨ds, hat, hlen, hrep⟩ := RepL.get hrl hn
   have hlen' : ds.length = 2 := hlen
   have hone := Rep.one _ _ _ hrep
   have hat2 := Cs hwi hS hb hat
   have hwt := Cb hn
   have hui := (Bw _ _ _ hei (by omega)).1
   refine (Af (A1 (Af (Aa (A0 V V (Bp underlying160 (Fk : By prog 170 true 2) (by omega) (by omega)) V ?_))))) a ha
   rw [Int.toNat_natCast]
   refine Ai V (Bg Fk hlen hat2) V (AO (hz0 _) V ?_)
   obtain ⟨w3, hst3, hb3, f3, hsz3⟩ := CV (P := prog) (w := wi) (v := .agg ds.toArray) (Fk : By prog 170 true 2) hzs hlen rfl hone.2
   have hw3 := hwi.other f3 (fun _ h => h.elim)
   refine An V V hst3 (Ae ?_)
   have hat3 := hb3.at_ 0 2
   rw [List.drop_zero, List.take_of_length_le (Nat.le_of_eq hlen')] at hat3
   refine Aa (Ac V V (Ai V (Bg Fk hlen hat3) V ?_))
   have hcall := h t (List.mem_of_getElem? hn) ds hrep si Oi w3 hw3 (by omega)
   refine B8 V call220 V V hcall ?_ ?_
   · rintro v w4 ⟨rfl, s4, O4, hs4, f4, hw4⟩
     refine A2 fun a ha => Az (Ad ((Aa (Al V V V V (Ac V V (A2 fun a ha => Ad ?_)))) a ha))
     have f34 : Fr Oi wi O4 w4 := (f3.drop (fun _ h => h.elim)).trans f4
     refine ⟨(i + 1, s4, O4), ha.weak ⟨rfl, rfl, rfl, rfl, ?_, trivial⟩, ⟨hlt, hw4, fi.trans f34, ?_⟩, by simp only; omega⟩
     · show some (Value.int .i64 (IntKind.i64.wrap ((i : Int) + 1))) = some (Value.int .i64 ((i + 1 : Nat) : Int))
       rw [B4 (by unfold Bu; omega)]; rfl
     · simp only; rw [BK hn, Bx, hei]; simp only [Option.bind_some, Cm]; exact hs4
   · rintro ch w4 ⟨rfl, hs4, s4, O4, f4, hw4, hn1, hn2⟩ a ha
     have f34 : Fr Oi wi O4 w4 := (f3.drop (fun _ h => h.elim)).trans f4
     refine AD (Am (Am (AD (Av ha ⟨rfl, Ci hn hei hs4, s4, O4, fi.trans f34, hw4, ?_, hn2⟩))))
     have := (Bw _ _ _ hei (by omega)).2
     rw [this] at hn1; exact hn1
 · have hge : i = l.length := by simp at hf; omega
   subst hge
   refine AV V ha ⟨rfl, si, Oi, ?_, fi, hwi⟩
   rw [List.take_length] at hei; exact hei
theorem Qo {w0 : World} {S : Nat → Prop} {p most long : Nat} {l : List T} (h : ∀ t ∈ l, CC w0 S p most long 248 (.st .part) t) : DH w0 S p most long 247 248 (.st .part) l := by
 intro cs hr s O w hw hu
 obtain ⟨g, cap, hv, hml, hg⟩ := Cr hr
 rw [hv, C0]
 have hll := BW l
 obtain ⟨z, hz0, hzs⟩ : ∃ z, (∀ w, (zeroValue 282).run prog w = .ok z w) ∧ z.cells.size = 18 := ⟨_, zeroValue282, rfl⟩
 have hul : l.length < 18446744073709551616 := by omega
 obtain ⟨vb, hvb, hrb, hput⟩ := hw.put
 refine AB 29 func247 V V V ?_
 refine Af (Aa (Ac V V (Ac V V (As V V (Ab V (Bf _ _ _) V (Ai V (A4 CG hvb) V (Ac V V ?_)))))))
 refine AE V (Ay underlying57) V (AJ V (Bv runUnderlying3 runUnderlying164) V ?_)
 rw [Bz (by omega) (by omega)]
 refine Aj call97 V V (JN hrb hul (by have := B_ hul; simp only [WS.use] at hu; omega)) ?_ Be
 rintro v' w1 ⟨r1, f1⟩
 obtain ⟨w2, O2, hst, f2, hw2⟩ := hput v' w1 _ f1 r1
 refine As V V (Ab V (Bf _ _ _) V (An V V hst (Ar [(0, ptr p), (1, .slice g l.length cap), (2, .func (.func 248) #[ptr p] #[])] ⟨V, V, V, trivial⟩ ?_)))
 refine Af (Aa (Ac V V (AE V (Ay underlying57) V (Ac V V (Ae ?_)))))
 have hsu := Bq (s := s) hul
 refine A1 (AW (ι := Nat × WS × (Nat → Prop)) (fun i => [(0, ptr p), (2, .func (.func 248) #[ptr p] #[]), (19, .slice g l.length cap), (20, .int .i64 l.length), (21, .int .i64 i.1)])
  (fun i w' => i.1 ≤ l.length ∧ WSt w0 S p most long i.2.1 i.2.2 w' ∧ Fr O w i.2.2 w' ∧ BU most long (l.take i.1) (s.num l.length) = some i.2.1) (fun i => l.length - i.1)
  (0, s.num l.length, O2) ⟨V, V, V, V, V, trivial⟩ ⟨Nat.zero_le _, hw2, f2, rfl⟩ ?_)
 rintro ⟨i, si, Oi⟩ wi ⟨hi, hwi, fi, hei⟩
 simp only at hi hwi fi hei ⊢
 refine Af (Aa (Al V V V V (Ae (Af ?_))))
 refine AK V (fun ht => A_ fun a ha => Ad ?_) (fun hf => AQ fun a ha => Aq (Aq (A3 ?_)))
 · have hlt : i < l.length := by simp at ht; omega
   obtain ⟨t, hn⟩ : ∃ t, l[i]? = some t := ⟨_, List.getElem?_eq_getElem hlt⟩
   rcases hg with ⟨_, rfl⟩ | ⟨b, o, rfl, hS, hb, hrl⟩
   · simp at hlt
   obtain ⟨ds, hat, hlen, hrep⟩ := RepL.get hrl hn
   have hlen' : ds.length = 18 := hlen
   have hone := Rep.one _ _ _ hrep
   have hat2 := Cs hwi hS hb hat
   have hwt := Cb hn
   have hui := (Bw _ _ _ hei (by omega)).1
   refine (Af (A1 (Af (Aa (A0 V V (Bp underlying57 (Eq : By prog 282 true 18) (by omega) (by omega)) V ?_))))) a ha
   rw [Int.toNat_natCast]
   refine Ai V (Bg Eq hlen hat2) V (AO (hz0 _) V ?_)
   obtain ⟨w3, hst3, hb3, f3, hsz3⟩ := CV (P := prog) (w := wi) (v := .agg ds.toArray) (Eq : By prog 282 true 18) hzs hlen rfl hone.2
   have hw3 := hwi.other f3 (fun _ h => h.elim)
   refine An V V hst3 (Ae ?_)
   have hat3 := hb3.at_ 0 18
   rw [List.drop_zero, List.take_of_length_le (Nat.le_of_eq hlen')] at hat3
   refine Aa (Ac V V (Ai V (Bg Eq hlen hat3) V ?_))
   have hcall := h t (List.mem_of_getElem? hn) ds hrep si Oi w3 hw3 (by omega)
   refine B8 V call248 V V hcall ?_ ?_
   · rintro v w4 ⟨rfl, s4, O4, hs4, f4, hw4⟩
     refine A2 fun a ha => Az (Ad ((Aa (Al V V V V (Ac V V (A2 fun a ha => Ad ?_)))) a ha))
     have f34 : Fr Oi wi O4 w4 := (f3.drop (fun _ h => h.elim)).trans f4
     refine ⟨(i + 1, s4, O4), ha.weak ⟨rfl, rfl, rfl, rfl, ?_, trivial⟩, ⟨hlt, hw4, fi.trans f34, ?_⟩, by simp only; omega⟩
     · show some (Value.int .i64 (IntKind.i64.wrap ((i : Int) + 1))) = some (Value.int .i64 ((i + 1 : Nat) : Int))
       rw [B4 (by unfold Bu; omega)]; rfl
     · simp only; rw [BK hn, Bx, hei]; simp only [Option.bind_some, Cm]; exact hs4
   · rintro ch w4 ⟨rfl, hs4, s4, O4, f4, hw4, hn1, hn2⟩ a ha
     have f34 : Fr Oi wi O4 w4 := (f3.drop (fun _ h => h.elim)).trans f4
     refine AD (Am (Am (AD (Av ha ⟨rfl, Ci hn hei hs4, s4, O4, fi.trans f34, hw4, ?_, hn2⟩))))
     have := (Bw _ _ _ hei (by omega)).2
     rw [this] at hn1; exact hn1
 · have hge : i = l.length := by simp at hf; omega
   subst hge
   refine AV V ha ⟨rfl, si, Oi, ?_, fi, hwi⟩
   rw [List.take_length] at hei; exact hei
theorem Qc {w0 : World} {S : Nat → Prop} {p most long : Nat} {l : List T} (h : ∀ t ∈ l, CC w0 S p most long 250 (.st .sort) t) : DH w0 S p most long 249 250 (.st .sort) l := by
 intro cs hr s O w hw hu
 obtain ⟨g, cap, hv, hml, hg⟩ := Cr hr
 rw [hv, C0]
 have hll := BW l
 obtain ⟨z, hz0, hzs⟩ : ∃ z, (∀ w, (zeroValue 286).run prog w = .ok z w) ∧ z.cells.size = 19 := ⟨_, zeroValue286, rfl⟩
 have hul : l.length < 18446744073709551616 := by omega
 obtain ⟨vb, hvb, hrb, hput⟩ := hw.put
 refine AB 29 func249 V V V ?_
 refine Af (Aa (Ac V V (Ac V V (As V V (Ab V (Bf _ _ _) V (Ai V (A4 CG hvb) V (Ac V V ?_)))))))
 refine AE V (Ay underlying67) V (AJ V (Bv runUnderlying3 runUnderlying164) V ?_)
 rw [Bz (by omega) (by omega)]
 refine Aj call97 V V (JN hrb hul (by have := B_ hul; simp only [WS.use] at hu; omega)) ?_ Be
 rintro v' w1 ⟨r1, f1⟩
 obtain ⟨w2, O2, hst, f2, hw2⟩ := hput v' w1 _ f1 r1
 refine As V V (Ab V (Bf _ _ _) V (An V V hst (Ar [(0, ptr p), (1, .slice g l.length cap), (2, .func (.func 250) #[ptr p] #[])] ⟨V, V, V, trivial⟩ ?_)))
 refine Af (Aa (Ac V V (AE V (Ay underlying67) V (Ac V V (Ae ?_)))))
 have hsu := Bq (s := s) hul
 refine A1 (AW (ι := Nat × WS × (Nat → Prop)) (fun i => [(0, ptr p), (2, .func (.func 250) #[ptr p] #[]), (19, .slice g l.length cap), (20, .int .i64 l.length), (21, .int .i64 i.1)])
  (fun i w' => i.1 ≤ l.length ∧ WSt w0 S p most long i.2.1 i.2.2 w' ∧ Fr O w i.2.2 w' ∧ BU most long (l.take i.1) (s.num l.length) = some i.2.1) (fun i => l.length - i.1)
  (0, s.num l.length, O2) ⟨V, V, V, V, V, trivial⟩ ⟨Nat.zero_le _, hw2, f2, rfl⟩ ?_)
 rintro ⟨i, si, Oi⟩ wi ⟨hi, hwi, fi, hei⟩
 simp only at hi hwi fi hei ⊢
 refine Af (Aa (Al V V V V (Ae (Af ?_))))
 refine AK V (fun ht => A_ fun a ha => Ad ?_) (fun hf => AQ fun a ha => Aq (Aq (A3 ?_)))
 · have hlt : i < l.length := by simp at ht; omega
   obtain ⟨t, hn⟩ : ∃ t, l[i]? = some t := ⟨_, List.getElem?_eq_getElem hlt⟩
   rcases hg with ⟨_, rfl⟩ | ⟨b, o, rfl, hS, hb, hrl⟩
   · simp at hlt
   obtain ⟨ds, hat, hlen, hrep⟩ := RepL.get hrl hn
   have hlen' : ds.length = 19 := hlen
   have hone := Rep.one _ _ _ hrep
   have hat2 := Cs hwi hS hb hat
   have hwt := Cb hn
   have hui := (Bw _ _ _ hei (by omega)).1
   refine (Af (A1 (Af (Aa (A0 V V (Bp underlying67 (DJ : By prog 286 true 19) (by omega) (by omega)) V ?_))))) a ha
   rw [Int.toNat_natCast]
   refine Ai V (Bg DJ hlen hat2) V (AO (hz0 _) V ?_)
   obtain ⟨w3, hst3, hb3, f3, hsz3⟩ := CV (P := prog) (w := wi) (v := .agg ds.toArray) (DJ : By prog 286 true 19) hzs hlen rfl hone.2
   have hw3 := hwi.other f3 (fun _ h => h.elim)
   refine An V V hst3 (Ae ?_)
   have hat3 := hb3.at_ 0 19
   rw [List.drop_zero, List.take_of_length_le (Nat.le_of_eq hlen')] at hat3
   refine Aa (Ac V V (Ai V (Bg DJ hlen hat3) V ?_))
   have hcall := h t (List.mem_of_getElem? hn) ds hrep si Oi w3 hw3 (by omega)
   refine B8 V call250 V V hcall ?_ ?_
   · rintro v w4 ⟨rfl, s4, O4, hs4, f4, hw4⟩
     refine A2 fun a ha => Az (Ad ((Aa (Al V V V V (Ac V V (A2 fun a ha => Ad ?_)))) a ha))
     have f34 : Fr Oi wi O4 w4 := (f3.drop (fun _ h => h.elim)).trans f4
     refine ⟨(i + 1, s4, O4), ha.weak ⟨rfl, rfl, rfl, rfl, ?_, trivial⟩, ⟨hlt, hw4, fi.trans f34, ?_⟩, by simp only; omega⟩
     · show some (Value.int .i64 (IntKind.i64.wrap ((i : Int) + 1))) = some (Value.int .i64 ((i + 1 : Nat) : Int))
       rw [B4 (by unfold Bu; omega)]; rfl
     · simp only; rw [BK hn, Bx, hei]; simp only [Option.bind_some, Cm]; exact hs4
   · rintro ch w4 ⟨rfl, hs4, s4, O4, f4, hw4, hn1, hn2⟩ a ha
     have f34 : Fr Oi wi O4 w4 := (f3.drop (fun _ h => h.elim)).trans f4
     refine AD (Am (Am (AD (Av ha ⟨rfl, Ci hn hei hs4, s4, O4, fi.trans f34, hw4, ?_, hn2⟩))))
     have := (Bw _ _ _ hei (by omega)).2
     rw [this] at hn1; exact hn1
 · have hge : i = l.length := by simp at hf; omega
   subst hge
   refine AV V ha ⟨rfl, si, Oi, ?_, fi, hwi⟩
   rw [List.take_length] at hei; exact hei
theorem Qi {w0 : World} {S : Nat → Prop} {p most long : Nat} {l : List T} (h : ∀ t ∈ l, CC w0 S p most long 252 (.st .source) t) : DH w0 S p most long 251 252 (.st .source) l := by
 intro cs hr s O w hw hu
 obtain ⟨g, cap, hv, hml, hg⟩ := Cr hr
 rw [hv, C0]
 have hll := BW l
 obtain ⟨z, hz0, hzs⟩ : ∃ z, (∀ w, (zeroValue 290).run prog w = .ok z w) ∧ z.cells.size = 17 := ⟨_, zeroValue290, rfl⟩
 have hul : l.length < 18446744073709551616 := by omega
 obtain ⟨vb, hvb, hrb, hput⟩ := hw.put
 refine AB 29 func251 V V V ?_
 refine Af (Aa (Ac V V (Ac V V (As V V (Ab V (Bf _ _ _) V (Ai V (A4 CG hvb) V (Ac V V ?_)))))))
 refine AE V (Ay underlying69) V (AJ V (Bv runUnderlying3 runUnderlying164) V ?_)
 rw [Bz (by omega) (by omega)]
 refine Aj call97 V V (JN hrb hul (by have := B_ hul; simp only [WS.use] at hu; omega)) ?_ Be
 rintro v' w1 ⟨r1, f1⟩
 obtain ⟨w2, O2, hst, f2, hw2⟩ := hput v' w1 _ f1 r1
 refine As V V (Ab V (Bf _ _ _) V (An V V hst (Ar [(0, ptr p), (1, .slice g l.length cap), (2, .func (.func 252) #[ptr p] #[])] ⟨V, V, V, trivial⟩ ?_)))
 refine Af (Aa (Ac V V (AE V (Ay underlying69) V (Ac V V (Ae ?_)))))
 have hsu := Bq (s := s) hul
 refine A1 (AW (ι := Nat × WS × (Nat → Prop)) (fun i => [(0, ptr p), (2, .func (.func 252) #[ptr p] #[]), (19, .slice g l.length cap), (20, .int .i64 l.length), (21, .int .i64 i.1)])
  (fun i w' => i.1 ≤ l.length ∧ WSt w0 S p most long i.2.1 i.2.2 w' ∧ Fr O w i.2.2 w' ∧ BU most long (l.take i.1) (s.num l.length) = some i.2.1) (fun i => l.length - i.1)
  (0, s.num l.length, O2) ⟨V, V, V, V, V, trivial⟩ ⟨Nat.zero_le _, hw2, f2, rfl⟩ ?_)
 rintro ⟨i, si, Oi⟩ wi ⟨hi, hwi, fi, hei⟩
 simp only at hi hwi fi hei ⊢
 refine Af (Aa (Al V V V V (Ae (Af ?_))))
 refine AK V (fun ht => A_ fun a ha => Ad ?_) (fun hf => AQ fun a ha => Aq (Aq (A3 ?_)))
 · have hlt : i < l.length := by simp at ht; omega
   obtain ⟨t, hn⟩ : ∃ t, l[i]? = some t := ⟨_, List.getElem?_eq_getElem hlt⟩
   rcases hg with ⟨_, rfl⟩ | ⟨b, o, rfl, hS, hb, hrl⟩
   · simp at hlt
   obtain ⟨ds, hat, hlen, hrep⟩ := RepL.get hrl hn
   have hlen' : ds.length = 17 := hlen
   have hone := Rep.one _ _ _ hrep
   have hat2 := Cs hwi hS hb hat
   have hwt := Cb hn
   have hui := (Bw _ _ _ hei (by omega)).1
   refine (Af (A1 (Af (Aa (A0 V V (Bp underlying69 (Fj : By prog 290 true 17) (by omega) (by omega)) V ?_))))) a ha
   rw [Int.toNat_natCast]
   refine Ai V (Bg Fj hlen hat2) V (AO (hz0 _) V ?_)
   obtain ⟨w3, hst3, hb3, f3, hsz3⟩ := CV (P := prog) (w := wi) (v := .agg ds.toArray) (Fj : By prog 290 true 17) hzs hlen rfl hone.2
   have hw3 := hwi.other f3 (fun _ h => h.elim)
   refine An V V hst3 (Ae ?_)
   have hat3 := hb3.at_ 0 17
   rw [List.drop_zero, List.take_of_length_le (Nat.le_of_eq hlen')] at hat3
   refine Aa (Ac V V (Ai V (Bg Fj hlen hat3) V ?_))
   have hcall := h t (List.mem_of_getElem? hn) ds hrep si Oi w3 hw3 (by omega)
   refine B8 V call252 V V hcall ?_ ?_
   · rintro v w4 ⟨rfl, s4, O4, hs4, f4, hw4⟩
     refine A2 fun a ha => Az (Ad ((Aa (Al V V V V (Ac V V (A2 fun a ha => Ad ?_)))) a ha))
     have f34 : Fr Oi wi O4 w4 := (f3.drop (fun _ h => h.elim)).trans f4
     refine ⟨(i + 1, s4, O4), ha.weak ⟨rfl, rfl, rfl, rfl, ?_, trivial⟩, ⟨hlt, hw4, fi.trans f34, ?_⟩, by simp only; omega⟩
     · show some (Value.int .i64 (IntKind.i64.wrap ((i : Int) + 1))) = some (Value.int .i64 ((i + 1 : Nat) : Int))
       rw [B4 (by unfold Bu; omega)]; rfl
     · simp only; rw [BK hn, Bx, hei]; simp only [Option.bind_some, Cm]; exact hs4
   · rintro ch w4 ⟨rfl, hs4, s4, O4, f4, hw4, hn1, hn2⟩ a ha
     have f34 : Fr Oi wi O4 w4 := (f3.drop (fun _ h => h.elim)).trans f4
     refine AD (Am (Am (AD (Av ha ⟨rfl, Ci hn hei hs4, s4, O4, fi.trans f34, hw4, ?_, hn2⟩))))
     have := (Bw _ _ _ hei (by omega)).2
     rw [this] at hn1; exact hn1
 · have hge : i = l.length := by simp at hf; omega
   subst hge
   refine AV V ha ⟨rfl, si, Oi, ?_, fi, hwi⟩
   rw [List.take_length] at hei; exact hei
theorem QQ {w0 : World} {S : Nat → Prop} {p most long : Nat} {l : List T} (h : ∀ t ∈ l, CC w0 S p most long 254 (.st .ctch) t) : DH w0 S p most long 253 254 (.st .ctch) l := by
 intro cs hr s O w hw hu
 obtain ⟨g, cap, hv, hml, hg⟩ := Cr hr
 rw [hv, C0]
 have hll := BW l
 obtain ⟨z, hz0, hzs⟩ : ∃ z, (∀ w, (zeroValue 294).run prog w = .ok z w) ∧ z.cells.size = 2 := ⟨_, zeroValue294, rfl⟩
 have hul : l.length < 18446744073709551616 := by omega
 obtain ⟨vb, hvb, hrb, hput⟩ := hw.put
 refine AB 29 func253 V V V ?_
 refine Af (Aa (Ac V V (Ac V V (As V V (Ab V (Bf _ _ _) V (Ai V (A4 CG hvb) V (Ac V V ?_)))))))
 refine AE V (Ay underlying70) V (AJ V (Bv runUnderlying3 runUnderlying164) V ?_)
 rw [Bz (by omega) (by omega)]
 refine Aj call97 V V (JN hrb hul (by have := B_ hul; simp only [WS.use] at hu; omega)) ?_ Be
 rintro v' w1 ⟨r1, f1⟩
 obtain ⟨w2, O2, hst, f2, hw2⟩ := hput v' w1 _ f1 r1
 refine As V V (Ab V (Bf _ _ _) V (An V V hst (Ar [(0, ptr p), (1, .slice g l.length cap), (2, .func (.func 254) #[ptr p] #[])] ⟨V, V, V, trivial⟩ ?_)))
 refine Af (Aa (Ac V V (AE V (Ay underlying70) V (Ac V V (Ae ?_)))))
 have hsu := Bq (s := s) hul
 refine A1 (AW (ι := Nat × WS × (Nat → Prop)) (fun i => [(0, ptr p), (2, .func (.func 254) #[ptr p] #[]), (19, .slice g l.length cap), (20, .int .i64 l.length), (21, .int .i64 i.1)])
  (fun i w' => i.1 ≤ l.length ∧ WSt w0 S p most long i.2.1 i.2.2 w' ∧ Fr O w i.2.2 w' ∧ BU most long (l.take i.1) (s.num l.length) = some i.2.1) (fun i => l.length - i.1)
  (0, s.num l.length, O2) ⟨V, V, V, V, V, trivial⟩ ⟨Nat.zero_le _, hw2, f2, rfl⟩ ?_)
 rintro ⟨i, si, Oi⟩ wi ⟨hi, hwi, fi, hei⟩
 simp only at hi hwi fi hei ⊢
 refine Af (Aa (Al V V V V (Ae (Af ?_))))
 refine AK V (fun ht => A_ fun a ha => Ad ?_) (fun hf => AQ fun a ha => Aq (Aq (A3 ?_)))
 · have hlt : i < l.length := by simp at ht; omega
   obtain ⟨t, hn⟩ : ∃ t, l[i]? = some t := ⟨_, List.getElem?_eq_getElem hlt⟩
   rcases hg with ⟨_, rfl⟩ | ⟨b, o, rfl, hS, hb, hrl⟩
   · simp at hlt
   obtain ⟨ds, hat, hlen, hrep⟩ := RepL.get hrl hn
   have hlen' : ds.length = 2 := hlen
   have hone := Rep.one _ _ _ hrep
   have hat2 := Cs hwi hS hb hat
   have hwt := Cb hn
   have hui := (Bw _ _ _ hei (by omega)).1
   refine (Af (A1 (Af (Aa (A0 V V (Bp underlying70 (E7 : By prog 294 true 2) (by omega) (by omega)) V ?_))))) a ha
   rw [Int.toNat_natCast]
   refine Ai V (Bg E7 hlen hat2) V (AO (hz0 _) V ?_)
   obtain ⟨w3, hst3, hb3, f3, hsz3⟩ := CV (P := prog) (w := wi) (v := .agg ds.toArray) (E7 : By prog 294 true 2) hzs hlen rfl hone.2
   have hw3 := hwi.other f3 (fun _ h => h.elim)
   refine An V V hst3 (Ae ?_)
   have hat3 := hb3.at_ 0 2
   rw [List.drop_zero, List.take_of_length_le (Nat.le_of_eq hlen')] at hat3
   refine Aa (Ac V V (Ai V (Bg E7 hlen hat3) V ?_))
   have hcall := h t (List.mem_of_getElem? hn) ds hrep si Oi w3 hw3 (by omega)
   refine B8 V call254 V V hcall ?_ ?_
   · rintro v w4 ⟨rfl, s4, O4, hs4, f4, hw4⟩
     refine A2 fun a ha => Az (Ad ((Aa (Al V V V V (Ac V V (A2 fun a ha => Ad ?_)))) a ha))
     have f34 : Fr Oi wi O4 w4 := (f3.drop (fun _ h => h.elim)).trans f4
     refine ⟨(i + 1, s4, O4), ha.weak ⟨rfl, rfl, rfl, rfl, ?_, trivial⟩, ⟨hlt, hw4, fi.trans f34, ?_⟩, by simp only; omega⟩
     · show some (Value.int .i64 (IntKind.i64.wrap ((i : Int) + 1))) = some (Value.int .i64 ((i + 1 : Nat) : Int))
       rw [B4 (by unfold Bu; omega)]; rfl
     · simp only; rw [BK hn, Bx, hei]; simp only [Option.bind_some, Cm]; exact hs4
   · rintro ch w4 ⟨rfl, hs4, s4, O4, f4, hw4, hn1, hn2⟩ a ha
     have f34 : Fr Oi wi O4 w4 := (f3.drop (fun _ h => h.elim)).trans f4
     refine AD (Am (Am (AD (Av ha ⟨rfl, Ci hn hei hs4, s4, O4, fi.trans f34, hw4, ?_, hn2⟩))))
     have := (Bw _ _ _ hei (by omega)).2
     rw [this] at hn1; exact hn1
 · have hge : i = l.length := by simp at hf; omega
   subst hge
   refine AV V ha ⟨rfl, si, Oi, ?_, fi, hwi⟩
   rw [List.take_length] at hei; exact hei
theorem Re {w0 : World} {S : Nat → Prop} {p most long : Nat} {l : List T} (h : ∀ t ∈ l, CC w0 S p most long 218 (.int) t) : DH w0 S p most long 286 218 (.int) l := by
 intro cs hr s O w hw hu
 obtain ⟨g, cap, hv, hml, hg⟩ := Cr hr
 rw [hv, C0]
 have hll := BW l
 have hul : l.length < 18446744073709551616 := by omega
 obtain ⟨vb, hvb, hrb, hput⟩ := hw.put
 refine AB 29 func286 V V V ?_
 refine Af (Aa (Ac V V (Ac V V (As V V (Ab V (Bf _ _ _) V (Ai V (A4 CG hvb) V (Ac V V ?_)))))))
 refine AE V (Ay underlying262) V (AJ V (Bv runUnderlying3 runUnderlying164) V ?_)
 rw [Bz (by omega) (by omega)]
 refine Aj call97 V V (JN hrb hul (by have := B_ hul; simp only [WS.use] at hu; omega)) ?_ Be
 rintro v' w1 ⟨r1, f1⟩
 obtain ⟨w2, O2, hst, f2, hw2⟩ := hput v' w1 _ f1 r1
 refine As V V (Ab V (Bf _ _ _) V (An V V hst (Ar [(0, ptr p), (1, .slice g l.length cap), (2, .func (.func 218) #[ptr p] #[])] ⟨V, V, V, trivial⟩ ?_)))
 refine Af (Aa (Ac V V (AE V (Ay underlying262) V (Ac V V (Ae ?_)))))
 have hsu := Bq (s := s) hul
 refine A1 (AW (ι := Nat × WS × (Nat → Prop)) (fun i => [(0, ptr p), (2, .func (.func 218) #[ptr p] #[]), (19, .slice g l.length cap), (20, .int .i64 l.length), (21, .int .i64 i.1)])
  (fun i w' => i.1 ≤ l.length ∧ WSt w0 S p most long i.2.1 i.2.2 w' ∧ Fr O w i.2.2 w' ∧ BU most long (l.take i.1) (s.num l.length) = some i.2.1) (fun i => l.length - i.1)
  (0, s.num l.length, O2) ⟨V, V, V, V, V, trivial⟩ ⟨Nat.zero_le _, hw2, f2, rfl⟩ ?_)
 rintro ⟨i, si, Oi⟩ wi ⟨hi, hwi, fi, hei⟩
 simp only at hi hwi fi hei ⊢
 refine Af (Aa (Al V V V V (Ae (Af ?_))))
 refine AK V (fun ht => A_ fun a ha => Ad ?_) (fun hf => AQ fun a ha => Aq (Aq (A3 ?_)))
 · have hlt : i < l.length := by simp at ht; omega
   obtain ⟨t, hn⟩ : ∃ t, l[i]? = some t := ⟨_, List.getElem?_eq_getElem hlt⟩
   rcases hg with ⟨_, rfl⟩ | ⟨b, o, rfl, hS, hb, hrl⟩
   · simp at hlt
   obtain ⟨ds, hat, hlen, hrep⟩ := RepL.get hrl hn
   have hlen' : ds.length = 1 := hlen
   have hat2 := Cs hwi hS hb hat
   have hwt := Cb hn
   have hui := (Bw _ _ _ hei (by omega)).1
   refine (Af (A1 (Af (Aa (A0 V V (Bp underlying262 (Cj : By prog 3 false 1) (by omega) (by omega)) V ?_))))) a ha
   rw [Int.toNat_natCast]
   obtain ⟨x, rfl⟩ := List.length_eq_one_iff.1 hlen'
   refine Ai V (A4 (Cj : By prog 3 false 1) (hat2 0 x V)) V (Ah V V (Ae ?_))
   refine Aa (Ac V V (Ac V V ?_))
   have hcall := h t (List.mem_of_getElem? hn) [x] hrep si Oi wi hwi (by omega)
   refine B8 V call218 V V hcall ?_ ?_
   · rintro v w4 ⟨rfl, s4, O4, hs4, f4, hw4⟩
     refine A2 fun a ha => Az (Ad ((Aa (Al V V V V (Ac V V (A2 fun a ha => Ad ?_)))) a ha))
     refine ⟨(i + 1, s4, O4), ha.weak ⟨rfl, rfl, rfl, rfl, ?_, trivial⟩, ⟨hlt, hw4, fi.trans f4, ?_⟩, by simp only; omega⟩
     · show some (Value.int .i64 (IntKind.i64.wrap ((i : Int) + 1))) = some (Value.int .i64 ((i + 1 : Nat) : Int))
       rw [B4 (by unfold Bu; omega)]; rfl
     · simp only; rw [BK hn, Bx, hei]; simp only [Option.bind_some, Cm]; exact hs4
   · rintro ch w4 ⟨rfl, hs4, s4, O4, f4, hw4, hn1, hn2⟩ a ha
     refine AD (Am (Am (AD (Av ha ⟨rfl, Ci hn hei hs4, s4, O4, fi.trans f4, hw4, ?_, hn2⟩))))
     have := (Bw _ _ _ hei (by omega)).2
     rw [this] at hn1; exact hn1
 · have hge : i = l.length := by simp at hf; omega
   subst hge
   refine AV V ha ⟨rfl, si, Oi, ?_, fi, hwi⟩
   rw [List.take_length] at hei; exact hei
end Go.Sx
