import Derived.Test.YtdldhfocpandoaaGreatStY
import Derived.Test.YtdldhfocpandoaaGreatStM
import Derived.Test.YtdldhfocpandoaaGreatStR
set_option maxHeartbeats 8000000
set_option maxRecDepth 8000
namespace Go.Sx
open Go.Proofs Go.Proofs.Tryz
def DOut (bs : List UInt8) (n : Nat) (w' : World) (cs : List Value) (e : Int) : Prop :=
 (∃ t, DZ bs t ∧ e = 0 ∧ Rep w' (fun b => n ≤ b) t (.st .sheet) cs) ∨ ((∀ t, ¬ DZ bs t) ∧ e = Fa bs ∧ cs = zsheet)
theorem Rep.any {w : World} {S : Nat → Prop} {t : T} {f : Ty} {cs : List Value} (h : Rep w S t f cs) : Rep w (fun _ => True) t f cs := Rep.agree (fun _ _ hl => ⟨trivial, hl, rfl⟩) _ _ _ h
theorem DOut.rep {bs : List UInt8} {n : Nat} {w : World} {cs : List Value} {e : Int} (h : DOut bs n w cs e) : ∃ t, Rep w (fun _ => True) t (.st .sheet) cs := by
 rcases h with ⟨t, _, _, r⟩ | ⟨_, _, rfl⟩
 · exact ⟨t, r.any⟩
 · exact ⟨Jy, Hc⟩
theorem DOut.two {bs : List UInt8} {n n' : Nat} {w w' : World} {cs ds : List Value} {e e' : Int} (h : DOut bs n w cs e) (k : DOut bs n' w' ds e') :
 e = e' ∧ ∃ t, Rep w (fun _ => True) t (.st .sheet) cs ∧ Rep w' (fun _ => True) t (.st .sheet) ds := by
 rcases h with ⟨t, d, rfl, r⟩ | ⟨no, he, rfl⟩
 · rcases k with ⟨u, d', rfl, r'⟩ | ⟨no, _⟩
   · have := LO d d'
     subst this
     exact ⟨rfl, t, r.any, r'.any⟩
   · exact (no t d).elim
 · rcases k with ⟨u, d', _⟩ | ⟨_, he', rfl⟩
   · exact (no u d').elim
   · subst he he'
     exact ⟨rfl, Jy, Hc, Hc⟩
def Nb (b j : Nat) : Env := [(22, .slice (some ⟨b, 0, none⟩) 3 3), (23, .int .i64 3), (24, .int .i64 (j : Int))]
theorem c3 {w : World} {v : Value} {bs : List UInt8} (hB : Bts w v bs) : Calls prog 3 [v].toArray w (Dq (fun r w' => r = .bool true ∧ F0 w w') (fun _ _ => False)) := by
 have hml : bs.length ≤ 9223372036854775807 := by have := hB.1; simpa [maxLen] using this
 obtain ⟨g, cap, rfl, _⟩ := hB.val
 refine AB 59 func3 V V V ?_
 refine Af (Aa (Ah V V (Ae ?_)))
 refine Af (Af (Aa (Ac V V (AE V (Ay underlying22) V (Al V V (Cu (c := decide (3000 < bs.length)) (decide_eq_decide.2 (by omega))) V (Ae (AK V (fun ht => ?_) (fun hf => A_ fun a ha => Ad ?_))))))))
 · refine Af (Aa (Aj call13 V V QA ?_ Be))
   rintro _ w1 ⟨rfl, f1⟩
   exact Ah V V (Ae (AA fun a ha => Ao (Au V ha V ⟨rfl, f1⟩)))
 have hle : bs.length ≤ 3000 := by have := of_decide_eq_false hf; omega
 refine A8 ha (Af (Af (Aa (Ac V V (A7 V Jk V (AJ V (Go.Lib.run_convert_bytes_const w 22 5 _ 4 4 underlying22 underlying5) V ?_))))))
 have r1 : Row (w.alloc (.cells (magicB.map bv).toArray 5 ((magicB.map bv).toArray.size, (magicB.map bv).toArray.size + 1))) (.slice (some ⟨w.heap.size, 0, none⟩) 4 4) magicB := K_
 have f1 : F0 w (w.alloc (.cells (magicB.map bv).toArray 5 ((magicB.map bv).toArray.size, (magicB.map bv).toArray.size + 1))) := Fr.alloc _ _ _
 have hn1 : ∀ x, Bk (.slice (some ⟨w.heap.size, 0, none⟩) 4 4) x → w.heap.size ≤ x := by
  intro x hx
  have : w.heap.size = x := by simpa [Bk, Value.ownBlock] using hx
  omega
 generalize w.alloc (.cells (magicB.map bv).toArray 5 ((magicB.map bv).toArray.size, (magicB.map bv).toArray.size + 1)) = w1 at r1 f1 ⊢
 obtain ⟨v2, w2, hr2, b2, f2⟩ := LT (ty := 22) r1 (hB.keep0 f1) (by simp only [magicB, List.length_cons, List.length_nil]; omega)
 have g2 : F0 w w2 := ⟨f2.os.trans f1.os, f2.tape.trans f1.tape, f2.output.trans f1.output, Nat.le_trans f1.size f2.size,
  fun x hx _ => by rw [f2.blk x (Nat.lt_of_lt_of_le hx f1.size) (fun ho => by have := hn1 x ho; omega), f1.blk x hx (fun h => h)], fun _ h => h.elim⟩
 refine Ac V V (AU V V hr2 V ?_)
 refine (Aj call14 V V (PL b2 (by simp only [magicB, List.length_append, List.length_cons, List.length_nil]; omega)) ?_ Be)
 rintro v3 w3 ⟨r3, f3⟩
 have g3 := g2.trans f3.none
 refine Ac V V (Aj call14 V V (PL (hB.keep0 g3) (by omega)) ?_ Be)
 rintro v3' w3' ⟨r3', f3'⟩
 have b3 := (BH r3).keep0 f3'.none
 have b3' := BH r3'
 obtain ⟨g3v, cap3, hv3, _⟩ := b3.val
 obtain ⟨g3v', cap3', hv3', _⟩ := b3'.val
 refine A7 V (Iw (e := 22) underlying25 NJ zeroValue22 V V (by rw [hv3]; rfl) (by rw [hv3']; rfl)) V (AE V (Ay underlying25) V (Ac V V ?_))
 have a4 : Blk (w3'.alloc (.cells [.slice g bs.length cap, v3, v3'].toArray 22)) w3'.heap.size [.slice g bs.length cap, v3, v3'] 22 := AN
 have f4 : F0 w3' (w3'.alloc (.cells [.slice g bs.length cap, v3, v3'].toArray 22)) := Fr.alloc _ _ _
 show WL _ _ _ _ _ _ _ (w3'.alloc (.cells [.slice g bs.length cap, v3, v3'].toArray 22))
 generalize w3'.alloc (.cells [.slice g bs.length cap, v3, v3'].toArray 22) = w4 at a4 f4 ⊢
 generalize w3'.heap.size = bb at a4 ⊢
 have G4 : F0 w w4 := (g3.trans f3'.none).trans f4
 have B1 : Bts w4 (.slice g bs.length cap) bs := hB.keep0 G4
 have B2 : Bts w4 v3 (BP (magicB ++ bs)) := b3.keep0 f4
 have B3 : Bts w4 v3' (BP bs) := b3'.keep0 f4
 have hl2 : (BP (magicB ++ bs)).length ≤ 3008 := by rw [EN]; simp only [magicB, List.length_append, List.length_cons, List.length_nil]; omega
 have hl3 : (BP bs).length ≤ 3008 := by rw [EN]; omega
 refine Ar (Nb bb 0) ⟨V, V, V, trivial⟩ ?_
 clear hr2 r1 f1 f2 b2 g2 r3 f3 f4 r3' f3'
 refine A1 (AW (ι := Nat × World) (fun i => Nb bb i.1) (fun i w' => w' = i.2 ∧ i.1 ≤ 3 ∧ F0 w4 w') (fun i => 3 - i.1) (0, w4) ⟨V, V, V, trivial⟩ ⟨rfl, by omega, Fr.refl _ _⟩ ?_)
 rintro ⟨j, _⟩ w5 ⟨rfl, hj, f5⟩
 simp only at hj f5 ⊢
 refine Af (Aa (Al V V (Bh (c := decide (j < 3)) (decide_eq_decide.2 (by omega))) V (Ae (Af (AK V (fun ht => A_ fun a ha => Ad ?_) (fun hf => AQ fun a ha => Aq (Aq (A3 (Ad ?_)))))))))
 · have hlt : j < 3 := of_decide_eq_true ht
   have a5 : Blk w5 bb [.slice g bs.length cap, v3, v3'] 22 := (f5.blk bb a4.lt (fun h => h)).trans a4
   obtain ⟨vx, xs, hx, hBx, hlx⟩ : ∃ vx xs, [Value.slice g bs.length cap, v3, v3'][j]? = some vx ∧ Bts w5 vx xs ∧ xs.length ≤ 3008 := by
    rcases (show j = 0 ∨ j = 1 ∨ j = 2 by omega) with rfl | rfl | rfl
    · exact ⟨_, _, rfl, B1.keep0 f5, by omega⟩
    · exact ⟨_, _, rfl, B2.keep0 f5, hl2⟩
    · exact ⟨_, _, rfl, B3.keep0 f5, hl3⟩
   have hidx : ∀ w, (Instr.indexAt 25 (.slice (some ⟨bb, 0, none⟩) 3 3) (.int .i64 (j : Int))).run prog w = .ok (.pointer (some ⟨bb, 0 + (j : Int).toNat * 1, none⟩)) w := fun w =>
    Bp underlying25 NJ (by omega) (by omega)
   have hcell : w5.cell? ⟨bb, 0 + (j : Int).toNat * 1, none⟩ = some vx := by rw [a5.cell]; simpa using hx
   refine A8 ha (Af (A1 ?_))
   refine Af (Aa (A0 V V (hidx _) V (Ai V (A4 NJ hcell) V (Ah V V (Ae ?_)))))
   refine Af (Aa (A7 V JS V (Ac V V ?_)))
   obtain ⟨v6, w6, hr6, r6, f6⟩ := BC (ty := 22) Ki (hBx.keep0 (fr_new (o := .cells ([] : List Value).toArray 5))).src (by rw [List.length_nil]; omega)
   rw [List.nil_append] at r6
   refine AU V V hr6 V (Ah V V (Ae ?_))
   have f56 : F0 w5 w6 := Fr.none (fr_new.trans (by rw [KI] at f6; exact f6))
   have hBc := BH r6
   refine Af (Aa (Ac V V (Aj call15 V V (RD hBc) ?_ Be)))
   rintro _ w7 ⟨cs, e, rfl, f7, d7⟩
   have d7 : DOut xs w6.heap.size w7 cs e := d7
   obtain ⟨t0, r7⟩ := d7.rep
   have hone := Rep.one _ _ _ r7
   obtain ⟨w8, hst8, b8, f8⟩ := HT (w := w7) (cs := cs) hone.1 hone.2
   refine Ac V V (Cn V V V (Cn V V V (AO (Iy _) V (An V V hst8 (Ah V V (Ae ?_))))))
   have f58 := (f56.trans f7).trans f8
   refine Af (Aa (Ac V V (Aj call16 V V (RJ (hBx.keep0 f58) hlx) ?_ Be)))
   rintro _ w9 ⟨ds, e', rfl, f9, d9⟩
   have d9 : DOut xs w8.heap.size w9 ds e' := d9
   obtain ⟨rfl, t, ra, rb⟩ := d7.two d9
   have hone' := Rep.one _ _ _ rb
   obtain ⟨w10, hst10, b10, f10⟩ := HT (w := w9) (cs := ds) hone'.1 hone'.2
   refine Ac V V (Cn V V V (Cn V V V (AO (Iy _) V (An V V hst10 (Ah V V (Ae ?_))))))
   have f810 := f9.trans f10
   have b8' := kb f810 b8
   refine Af (Aa (Ac V V (Ac V V (Al V V (BO (a := e) (b := e) (c := false) (by simp)) V (Ac V V ?_)))))
   refine Ag (j := 3) V V V (Ai V (Bg EE hone.1 b8'.all) V (Ag (j := 3) V V V (Ai V (Bg EE hone'.1 b10.all) V ?_)))
   refine Ag (j := 3) V V V (Aj call17 V V (Ps (ra.fresh (f8.trans f810)) (rb.fresh f10)) ?_ Be)
   rintro _ w11 ⟨rfl, f11⟩
   rw [EJ rfl]
   have f511 := (f58.trans f810).trans f11
   have hs1 := Cx (hBc.keep0 ((f7.trans f8).trans (f810.trans f11)))
   have hs2 := Cx (hBx.keep0 f511)
   refine Ag (j := 3) V V V (Bt V V (AI V V V (Ac V V ?_)))
   refine Ag (j := 9) V V V (Ac V V (Ag (j := 9) V V V (AJ V hs1 V (Ag (j := 9) V V V (Ac V V ?_)))))
   refine Ag (j := 9) V V V (AJ V hs2 V (Ag (j := 9) V V V (Dh V V GH V (AI V V V (Ae ?_)))))
   refine A9 V (A_ fun a ha => Az (Ad ?_))
   refine A8 ha (Aa (Al V V V V (Ac V V (A2 fun a ha => Ad ?_))))
   exact ⟨(j + 1, w11), ha.weak ⟨rfl, rfl, congrArg some (AS (by omega)), trivial⟩, ⟨rfl, hlt, f5.trans f511⟩, by show 3 - (j + 1) < 3 - j; omega⟩
 · have hj2 : j = 3 := by have := of_decide_eq_false hf; omega
   subst hj2
   refine A8 ha (Af (Aa (Aj call13 V V QA ?_ Be)))
   rintro _ w6 ⟨rfl, f6⟩
   exact Ah V V (Ae (AA fun a ha => Au V ha V ⟨rfl, (G4.trans f5).trans f6⟩))
end Go.Sx
