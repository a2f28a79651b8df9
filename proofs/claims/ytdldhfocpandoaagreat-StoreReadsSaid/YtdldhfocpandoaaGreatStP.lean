import Derived.Test.YtdldhfocpandoaaGreatStO
import Derived.Test.YtdldhfocpandoaaGreatStH
import Derived.Test.YtdldhfocpandoaaGreatStC
set_option maxHeartbeats 8000000
set_option maxRecDepth 8000
namespace Go.Sx
open Go.Proofs Go.Proofs.Tryz
theorem Oj {w : World} {i j : Int} : (Instr.build 173 #[(4, .int .i64 i), (5, .int .i64 j)]).run prog w = .ok (.agg [.slice none 0 0, .slice none 0 0, .int .i64 0, .bool false, .int .i64 i, .int .i64 j].toArray) w := by
 simp [Instr.build, zeroValue173, runUnderlying173, Value.cells, Instr.fill, sizeOf3]
theorem N7 {w w' : World} {S : Nat → Prop} {most long p : Nat} (hp : Blk w' p [.slice none 0 0, .slice none 0 0, .int .i64 0, .bool false, .int .i64 most, .int .i64 long] 173) (h1 : w.heap.size ≤ p) (f : Fr (fun _ => False) w (fun _ => False) w') :
 XSt w S p most long (ws0, false) (fun b => b = p) w' := by
 refine ⟨fun b _ hl => ⟨fun h => by subst h; omega, f.blk b hl (fun h => h)⟩, ?_, f.size, ⟨.slice none 0 0, .slice none 0 0, hp, World.ownsRow_nil _ _ _ _, World.ownsRow_nil _ _ _ _, rfl, ?_, ?_⟩, by simp [ws0]⟩
 · rintro b rfl; exact hp.lt
 · intro k hk; simp [Bk, Value.ownBlock] at hk
 · intro k hk; simp [Bk, Value.ownBlock] at hk
theorem Ny {w : World} : (w.alloc (.cells (magicB.map bv).toArray 5)).ownsRow 0 5 1 (.slice (some ⟨w.heap.size, 0, none⟩) 4 4) magicB.length (magicB.map bv) :=
 ⟨rfl, .inr ⟨w.heap.size, 4, (magicB.map bv).toArray, rfl, Nat.zero_le _, heap_alloc_new w _, Nat.le_refl _, by simp [maxLen], rfl, rfl⟩⟩
theorem XSt.rows {w0 w : World} {S : Nat → Prop} {p most long : Nat} {x : XW} {O : Nat → Prop} (h : XSt w0 S p most long x O w) : ∃ vb vt, w.cell? ⟨p, 0, none⟩ = some vb ∧ w.cell? ⟨p, 1, none⟩ = some vt ∧ w.cell? ⟨p, 3, none⟩ = some (.bool x.2) ∧ p < w.heap.size ∧
 w.ownsRow 0 5 1 vb x.1.b.length (x.1.b.map bv) ∧ w.ownsRow 0 9 1 vt x.1.tab.length (x.1.tab.map Value.string) := by
 obtain ⟨vb, vt, m⟩ := h.mem
 exact ⟨vb, vt, by rw [m.blk.cell]; rfl, by rw [m.blk.cell]; rfl, by rw [m.blk.cell]; rfl, m.blk.lt, m.rb, m.rt⟩
def Kz (most long : Nat) (t : T) : XW := CB most long t (ws0, false)
theorem N8 {most long : Nat} {t : T} {s : WS} (h : enc most long t ws0 = some s) : Kz most long t = (s, false) := (IF t ws0).1 s h
theorem Nu {most long : Nat} {t : T} (h : enc most long t ws0 = none) : (Kz most long t).2 = true := (IF t ws0).2 h
theorem OC {w : World} {S : Nat → Prop} {t : T} {cs : List Value} {p most long : Nat} (hr : Rep w S t (.st .sheet) cs) (hu : 11 * t.wt ≤ 2 ^ 40) {w1 : World}
 (hp : Blk w1 p [.slice none 0 0, .slice none 0 0, .int .i64 0, .bool false, .int .i64 most, .int .i64 long] 173) (h1 : w.heap.size ≤ p) (f : Fr (fun _ => False) w (fun _ => False) w1) :
 Calls prog 88 [ptr p, .agg cs.toArray].toArray w1 (Dq (fun v w' => v = .tuple #[] ∧ Fr (fun _ => False) w (fun _ => False) w' ∧ ∃ vb vt, w'.cell? ⟨p, 0, none⟩ = some vb ∧ w'.cell? ⟨p, 1, none⟩ = some vt ∧ w'.cell? ⟨p, 3, none⟩ = some (.bool (Kz most long t).2) ∧ p < w'.heap.size ∧
  w'.ownsRow 0 5 1 vb (Kz most long t).1.b.length ((Kz most long t).1.b.map bv) ∧ w'.ownsRow 0 9 1 vt (Kz most long t).1.tab.length ((Kz most long t).1.tab.map Value.string) ∧ (∀ y ∈ (Kz most long t).1.tab, y.size ≤ maxLen) ∧ (Kz most long t).1.use ≤ 11 * t.wt) (fun _ _ => False)) := by
 have hx : XSt w S p most long (ws0, false) (fun b => b = p) w1 := N7 hp h1 f
 have hu0 : (ws0, false).1.use + 11 * t.wt ≤ 2 ^ 40 := by simp only [ws0, WS.use, List.length_nil]; omega
 refine (Pq hr hx hu0).mono ?_
 intro e w' he
 cases e with
 | returned v =>
  obtain ⟨rfl, O', fo, hs⟩ := he
  obtain ⟨vb, vt, a1, a2, a3, a4, a5, a6⟩ := hs.rows
  refine ⟨rfl, ?_, vb, vt, a1, a2, a3, a4, a5, a6, hs.tabs, ?_⟩
  · exact ⟨fo.os.trans f.os, fo.tape.trans f.tape, fo.output.trans f.output, Nat.le_trans f.size fo.size, fun b hb _ => by rw [fo.blk b (Nat.lt_of_lt_of_le hb f.size) (fun h => by omega), f.blk b hb (fun h => h)], fun _ h => h.elim⟩
  · have := (IK (most := most) (long := long) t (ws0, false) hu0).1
    simp only [ws0, WS.use, List.length_nil] at this ⊢
    unfold Kz
    simp only [ws0]
    omega
 | panicked ch => exact he.elim
 | outgrown => exact he.elim
end Go.Sx
namespace Go.Sx
open Go.Proofs Go.Proofs.Tryz
theorem Sz {w : World} {S : Nat → Prop} {t : T} {cs : List Value} (hr : Rep w S t (.st .sheet) cs) (hu : 11 * t.wt ≤ 2 ^ 40) :
 Calls prog 35 [.agg cs.toArray].toArray w (Dq (Pn w (CH t)) (fun _ _ => False)) := by
 have hlen : cs.length = 10 := hr.st_inv.elim fun l h => h.2.1
 refine AB 74 func35 V V V ?_
 refine Af (Aa (Cd V V ?_))
 have a1 : Blk (w.alloc (.cells cs.toArray 36)) w.heap.size cs 36 := AN
 have f1 : Fr (fun _ => False) w (fun _ => False) (w.alloc (.cells cs.toArray 36)) := Fr.alloc _ _ _
 show WL _ _ _ _ _ _ _ (w.alloc (.cells cs.toArray 36))
 generalize w.alloc (.cells cs.toArray 36) = w1 at a1 f1 ⊢
 refine Ah V V (Ah V V (Ae ?_))
 refine Af (Aa (Cl V Oj V (Cd V V (Ah V V (Ae ?_)))))
 have a2 : Blk (w1.alloc (.cells [.slice none 0 0, .slice none 0 0, .int .i64 0, .bool false, .int .i64 (1000 : Nat), .int .i64 (16777216 : Nat)].toArray 173)) w1.heap.size [.slice none 0 0, .slice none 0 0, .int .i64 0, .bool false, .int .i64 (1000 : Nat), .int .i64 (16777216 : Nat)] 173 := AN
 have f2 : Fr (fun _ => False) w1 (fun _ => False) (w1.alloc (.cells [.slice none 0 0, .slice none 0 0, .int .i64 0, .bool false, .int .i64 (1000 : Nat), .int .i64 (16777216 : Nat)].toArray 173)) := Fr.alloc _ _ _
 show W _ _ _ _ _ _ (w1.alloc (.cells [.slice none 0 0, .slice none 0 0, .int .i64 0, .bool false, .int .i64 (1000 : Nat), .int .i64 (16777216 : Nat)].toArray 173))
 generalize w1.alloc (.cells [.slice none 0 0, .slice none 0 0, .int .i64 0, .bool false, .int .i64 (1000 : Nat), .int .i64 (16777216 : Nat)].toArray 173) = w2 at a2 f2 ⊢
 have a1' : Blk w2 w.heap.size cs 36 := (f2.blk _ a1.lt (fun h => h)).trans a1
 refine Af (Aa (Ac V V (Ai V (Bg EE hlen a1'.all) V (Aj call88 V V (OC (hr.fresh f1) hu a2 (Nat.le_refl _) f2) ?_ Be))))
 rintro _ w3 ⟨rfl, f3, vb, vt, hb, ht, hd, hpl, rb, rt, htabs, huse⟩
 have F := f1.trans f3
 generalize w1.heap.size = p at hb ht hd hpl ⊢
 obtain ⟨g, cap, rfl, _⟩ := Dr rb
 obtain ⟨gt, capt, rfl, hget⟩ := Dr rt
 refine Ae (Dc [(4, ptr p)] ⟨V, trivial⟩ ?_)
 refine Af (Af (Aa (Ac V V (As V V (Ab V (Dx _ _ _) V (Ai V (A4 Ee hd) V (Ac V V ?_)))))))
 unfold CH Dk
 cases he : enc 1000 16777216 t ws0 with
 | none =>
  have := Nu he
  rw [this]
  refine B6 (j := 4) V V V V V (B6 (j := 4) V V V V V (B6 (j := 4) V V V V V (B6 (j := 4) V V V V V (B6 (j := 4) V V V V V (B6 (j := 4) V V V V V (AI V V V (Ae (Ax V ?_))))))))
  refine Af (Aa (Ah V V (Ah V V (Ae (AA fun a ha => Ao (Ea V ha V V ⟨.slice none 0 0, ?_, rfl, rfl⟩))))))
  rw [G8]; exact F
 | some s =>
  have hrun := N8 he
  rw [hrun] at hb ht rb rt hget htabs huse ⊢
  simp only [] at hb ht rb rt hget htabs huse ⊢
  refine Ag (j := 4) V V V (Ac V V (Ag (j := 4) V V V (As V V (Ag (j := 4) V V V (Ab V (CM _ _ _) V ?_)))))
  refine Ag (j := 4) V V V (Ai V (A4 CG hb) V (Ag (j := 4) V V V (AE V (Ay underlying22) V (Ag (j := 4) V V V (Al V V (Cu (c := decide (16777216 < s.b.length)) (decide_eq_decide.2 (by omega))) V ?_)))))
  refine AI V V V (Ae (AK V (fun h => ?_) (fun h => A_ fun a ha => Ad ?_)))
  · have hl : 16777216 < s.b.length := of_decide_eq_true h
    refine Af (Aa (Ah V V (Ah V V (Ae (AA fun a ha => Ao (Ea V ha V V ⟨.slice none 0 0, ?_, ?_⟩))))))
    · rw [G8]; exact F
    · simp only [Option.bind_some]; rw [if_pos hl]; refine ⟨?_, ?_⟩ <;> first | rfl | trivial
  · have hl : ¬ 16777216 < s.b.length := of_decide_eq_false h
    have htz := JL t _ _ he
    have htz0 : Lz ws0.tab = 0 := rfl
    have hel := EV s.tab htabs
    simp only [WS.use] at huse
    have hnl := B_ (n := s.tab.length) (by omega)
    have hee : (Bi s.tab).length ≤ 2 ^ 44 := by omega
    have htl : s.tab.length ≤ 2 ^ 40 := by omega
    have hml : magicB.length = 4 := rfl
    -- the beginning
    refine A8 ha (Af (Aa (A7 V Jk V ?_)))
    have r4 : (w3.alloc (.cells (magicB.map bv).toArray 5)).ownsRow 0 5 1 (.slice (some ⟨w3.heap.size, 0, none⟩) 4 4) magicB.length (magicB.map bv) := Ny
    have f4 : Fr (fun _ => False) w3 (Bk (.slice (some ⟨w3.heap.size, 0, none⟩) 4 4)) (w3.alloc (.cells (magicB.map bv).toArray 5)) :=
     ⟨rfl, rfl, rfl, by simp, fun b hb _ => heap_alloc_old w3 _ b hb, fun b hb => .inr (Nat.le_of_eq (Mv hb))⟩
    generalize w3.alloc (.cells (magicB.map bv).toArray 5) = w4 at r4 f4 ⊢
    generalize Value.slice (some ⟨w3.heap.size, 0, none⟩) 4 4 = v4 at r4 f4 ⊢
    have cellT : ∀ {w' : World} {U : Nat → Prop}, Fr (fun _ => False) w3 U w' → w'.cell? ⟨p, 1, none⟩ = some (.slice gt s.tab.length capt) := fun f => by rw [World.cell?_of_block (w := w3) (f.blk p hpl (fun h => h))]; exact ht
    have cellB : ∀ {w' : World} {U : Nat → Prop}, Fr (fun _ => False) w3 U w' → w'.cell? ⟨p, 0, none⟩ = some (.slice g s.b.length cap) := fun f => by rw [World.cell?_of_block (w := w3) (f.blk p hpl (fun h => h))]; exact hb
    refine Ac V V (As V V (Ab V (Dl _ _ _) V (Ai V (A4 D_ (cellT f4)) V (AE V (Ay underlying44) V (AJ V (ER (by omega) (by omega)) V ?_)))))
    refine Aj call89 V V (Pg _ _ (Nat.le_refl _) (by omega)) ?_ Be
    rintro v5 w5 ⟨r5, f5⟩
    have r4' := AP r4 (fun b hb => f5.blk b (AT r4 hb) (fun h => h))
    obtain ⟨v6, w6, hr6, r6, f6⟩ := BC (ty := 22) r4' (BH r5).src (by omega)
    have F6 : Fr (fun _ => False) w3 (Bk v6) w6 := (f4.trans (f5.drop (fun _ h => h.elim))).trans f6
    refine AU V V hr6 V (Ah V V (Ar [(4, ptr p), (5, v6)] ⟨V, V, trivial⟩ ?_))
    -- the strings
    refine Af (Af (Aa (Ah V V (Ae ?_))))
    refine A1 (AW (ι := Nat × Value × World) (fun i => [(4, ptr p), (5, i.2.1), (6, .int .i64 (i.1 : Int))])
     (fun i w' => w' = i.2.2 ∧ i.1 ≤ s.tab.length ∧ Fr (fun _ => False) w3 (Bk i.2.1) w' ∧ w'.ownsRow 0 5 1 i.2.1 (magicB ++ num s.tab.length ++ Bi (s.tab.take i.1)).length ((magicB ++ num s.tab.length ++ Bi (s.tab.take i.1)).map bv)) (fun i => s.tab.length - i.1)
     (0, v6, w6) ⟨V, V, V, trivial⟩ ⟨rfl, Nat.zero_le _, F6, by simpa [Bi] using r6⟩ ?_)
    clear F6 r6 f6 hr6 r4' r5 f5
    rintro ⟨i, v7, _⟩ w7 ⟨rfl, hi, F7, r7⟩
    simp only at hi F7 r7 ⊢
    have het := EF s.tab i
    refine Af (Af (Aa (Ac V V (Ac V V (As V V (Ab V (Dl _ _ _) V (Ai V (A4 D_ (cellT F7)) V ?_)))))))
    refine AE V (Ay underlying44) V (Al V V (Bh (c := decide (i < s.tab.length)) (decide_eq_decide.2 (by omega))) V (Ae (AK V (fun ht => A_ fun a ha => Ad ?_) (fun hf => AQ fun a ha => Aq (Aq (A3 (Ad ?_)))))))
    · have hlt : i < s.tab.length := of_decide_eq_true ht
      have hti : s.tab[i]? = some s.tab[i] := List.getElem?_eq_getElem hlt
      have hys := htabs _ (List.getElem_mem hlt)
      obtain ⟨b, hgb, hcell, hob⟩ := hget i (.string s.tab[i]) (by rw [List.getElem?_map, hti]; rfl)
      subst hgb
      have hbl : b < w3.heap.size := AT rt hob
      have cellS : ∀ {w' : World} {U : Nat → Prop}, Fr (fun _ => False) w3 U w' → w'.cell? ⟨b, 0 + (i : Int).toNat * 1, none⟩ = some (.string s.tab[i]) := fun f => by
       rw [World.cell?_of_block (w := w3) (f.blk b hbl (fun h => h))]; simpa using hcell
      have hidx : ∀ w, (Instr.indexAt 44 (.slice (some ⟨b, 0, none⟩) s.tab.length capt) (.int .i64 (i : Int))).run prog w = .ok (.pointer (some ⟨b, 0 + (i : Int).toNat * 1, none⟩)) w := fun w =>
       Bp underlying44 MM (by omega) (by omega)
      have hsz : s.tab[i].size ≤ 2 ^ 41 := by
       have := MX (List.getElem_mem hlt); omega
      have htak := DU hti
      have het1 := EF s.tab (i + 1)
      have hel1 : (Bi (s.tab.take (i + 1))).length = (Bi (s.tab.take i)).length + (D3 s.tab[i]).length := by rw [htak, List.length_append]
      have hey : (D3 s.tab[i]).length = (num s.tab[i].size).length + s.tab[i].size := by unfold D3; rw [List.length_append, Array.length_toList]; rfl
      refine A8 ha (Af (A1 ?_))
      refine Af (Aa (Ac V V (Ac V V (As V V (Ab V (Dl _ _ _) V (Ai V (A4 D_ (cellT F7)) V (Ac V V (A0 V V (hidx _) V (Ai V (A4 MM (cellS F7)) V (AE V (GL underlying9) V (AJ V (ER (by omega) (by omega)) V ?_)))))))))))
      refine Aj call89 V V (Pg _ _ (Nat.le_refl _) (by omega)) ?_ Be
      rintro v8 w8 ⟨r8, f8⟩
      have r7' := AP r7 (fun b hb => f8.blk b (AT r7 hb) (fun h => h))
      obtain ⟨v9, w9, hr9, r9, f9⟩ := BC (ty := 22) r7' (BH r8).src (by rw [List.length_append, List.length_append]; omega)
      have F9 : Fr (fun _ => False) w3 (Bk v9) w9 := (F7.trans (f8.drop (fun _ h => h.elim))).trans f9
      refine AU V V hr9 V (Ah V V (Ae ?_))
      refine Aa (Ac V V (Ac V V (As V V (Ab V (Dl _ _ _) V (Ai V (A4 D_ (cellT F9)) V (Ac V V (A0 V V (hidx _) V (Ai V (A4 MM (cellS F9)) V ?_))))))))
      obtain ⟨v10, w10, hr10, r10, f10⟩ := BC (ty := 22) (ys := s.tab[i].data.toList) r9 (Src.ofString _ underlying9 s.tab[i]) (by
       have : s.tab[i].data.toList.length = s.tab[i].size := Array.length_toList
       rw [List.length_append, List.length_append, List.length_append]; omega)
      refine AU V V hr10 V (Ah V V (A2 fun a ha => Az (Ad ?_)))
      refine A8 ha (Aa (Ac V V (Al V V V V (Ah V V (A2 fun a ha => Ad ?_)))))
      refine ⟨(i + 1, v10, w10), ha.weak ⟨rfl, rfl, congrArg some (AS (by omega)), trivial⟩, ⟨rfl, hlt, F9.trans f10, ?_⟩, Nat.sub_lt_sub_left hlt (Nat.lt_succ_self i)⟩
      simp only
      rw [htak]
      have e : magicB ++ num s.tab.length ++ Bi (s.tab.take i) ++ num s.tab[i].size ++ s.tab[i].data.toList = magicB ++ num s.tab.length ++ (Bi (s.tab.take i) ++ D3 s.tab[i]) := by unfold D3; simp only [List.append_assoc]
      rw [← e]; exact r10
    · have hend : i = s.tab.length := Nat.le_antisymm hi (Nat.le_of_not_lt (of_decide_eq_false hf))
      subst hend
      rw [List.take_length] at r7
      have rb7 : w7.ownsRow 0 5 1 (.slice g s.b.length cap) s.b.length (s.b.map bv) := AP rb (fun b hb => F7.blk b (AT rb hb) (fun h => h))
      obtain ⟨v8, w8, hr8, r8, f8⟩ := BC (ty := 22) r7 (BH rb7).src (by rw [List.length_append, List.length_append]; omega)
      refine A8 ha (Af (Aa (Ac V V (Ac V V (As V V (Ab V (CM _ _ _) V (Ai V (A4 CG (cellB F7)) V (AU V V hr8 V ?_))))))))
      refine Aj call14 V V (PL (BH r8) (by rw [List.length_append, List.length_append, List.length_append]; omega)) ?_ Be
      rintro v9 w9 ⟨r9, f9⟩
      have hsl := EN (magicB ++ num s.tab.length ++ Bi s.tab ++ s.b)
      obtain ⟨g9, c9, rfl, _⟩ := Dr r9
      have F9 : Fr (fun _ => False) w (Bk (.slice g9 (BP (magicB ++ num s.tab.length ++ Bi s.tab ++ s.b)).length c9)) w9 := (F.trans (F7.trans f8).none).fresh_trans f9
      refine Ah V V (Ae ?_)
      refine Af (Af (Aa (Ac V V (AE V (Ay underlying22) V (Al V V (Cu (c := decide (16777216 < (DE s).length)) (decide_eq_decide.2 (by unfold DE; omega))) V (Ae ?_))))))
      refine AK V (fun h => ?_) (fun h => A_ fun a ha => Ad ?_)
      · have hl2 : 16777216 < (DE s).length := of_decide_eq_true h
        refine Af (Aa (Ah V V (Ah V V (Ae (AA fun a ha => Ao (Ea V ha V V ⟨.slice none 0 0, ?_, ?_⟩))))))
        · rw [G8]; exact F9.none
        · simp only [Option.bind_some]; rw [if_neg hl]; simp only [Option.bind_some]; rw [if_pos hl2]; refine ⟨?_, ?_⟩ <;> first | rfl | trivial
      · have hl2 : ¬ 16777216 < (DE s).length := of_decide_eq_false h
        refine A8 ha (Af (Aa (Ac V V (Ah V V (Ah V V (Ae (AA fun a ha => Ea V ha V V ⟨_, F9, ?_⟩)))))))
        simp only [Option.bind_some]; rw [if_neg hl]; simp only [Option.bind_some]; rw [if_neg hl2]
        refine ⟨?_, ?_⟩ <;> first | rfl | trivial | exact r9
end Go.Sx
namespace Go.Sx
def DP (ops : Array Oper) (n : Nat) : List Oper → Env → Option Env
 | [], m => some m
 | ⟨some d, _op, _, _, _, some (j, want)⟩ :: r, m =>
  match (ops[j]?).bind (·.dst), Nat.blt d n with
  | some dj, true =>
   match m.get dj with
   | some v => match Io v want with
    | false => DP ops n r ((d, undef) :: m)
    | true => none
   | none => none
  | _, _ => none
 | ⟨some d, .move x, _, _, _, none⟩ :: r, m =>
  match ev m x, Nat.blt d n with
  | some v, true => DP ops n r ((d, v) :: m)
  | _, _ => none
 | ⟨some d, .assign x, _, _, _, none⟩ :: r, m =>
  match ev m x, Nat.blt d n with
  | some v, true => DP ops n r ((d, v) :: m)
  | _, _ => none
 | ⟨some d, .pick c x y, _, _, _, none⟩ :: r, m =>
  match ev m c, Nat.blt d n with
  | some (.bool true), true => match ev m x with
   | some v => DP ops n r ((d, v) :: m)
   | none => none
  | some (.bool false), true => match ev m y with
   | some v => DP ops n r ((d, v) :: m)
   | none => none
  | _, _ => none
 | _, _ => none
section
variable {P : Program} {ops : Array Oper} {n : Nat} {ds : List Deferred} {w : World}
theorem AY {Q : Exit → Act → World → Prop} : ∀ (rest : List Oper) (m m' : Env), DP ops n rest m = some m' → WL P ops Q [] n ds m' w → WL P ops Q rest n ds m w := by
 intro rest
 induction rest with
 | nil => intro m m' h k; simp only [DP, Option.some.injEq] at h; subst h; exact k
 | cons o r ih =>
  intro m m' h k
  unfold DP at h
  split at h
  · rename_i heq; cases heq
  · rename_i heq
    cases heq
    split at h
    · rename_i dj hj hb
      split at h
      · rename_i v hv
        split at h
        · rename_i hw
          obtain ⟨o', ho', hd'⟩ := Option.bind_eq_some_iff.1 hj
          exact B6 ho' hd' hv hw hb (ih _ _ h k)
        · cases h
      · cases h
    · cases h
  · rename_i heq
    cases heq
    split at h
    · rename_i hx hb; exact Ac hx hb (ih _ _ h k)
    · cases h
  · rename_i heq
    cases heq
    split at h
    · rename_i hx hb; exact Ah hx hb (ih _ _ h k)
    · cases h
  · rename_i heq
    cases heq
    split at h
    · rename_i hc hb
      split at h
      · rename_i hx; exact AI hc hx hb (ih _ _ h k)
      · cases h
    · rename_i hc hb
      split at h
      · rename_i hx; exact AI hc hx hb (ih _ _ h k)
      · cases h
    · cases h
  · cases h
theorem BI {C : World → Prop} {Q : Act → Prop} : ∀ (rest : List Oper) (m m' : Env), DP ops n rest m = some m' → QL P ops C Q [] n ds m' → QL P ops C Q rest n ds m := by
 intro rest
 induction rest with
 | nil => intro m m' h k; simp only [DP, Option.some.injEq] at h; subst h; exact k
 | cons o r ih =>
  intro m m' h k
  unfold DP at h
  split at h
  · rename_i heq; cases heq
  · rename_i heq
    cases heq
    split at h
    · rename_i dj hj hb
      split at h
      · rename_i v hv
        split at h
        · rename_i hw
          obtain ⟨o', ho', hd'⟩ := Option.bind_eq_some_iff.1 hj
          exact CR ho' hd' hv hw hb (ih _ _ h k)
        · cases h
      · cases h
    · cases h
  · rename_i heq
    cases heq
    split at h
    · rename_i hx hb; exact A6 hx hb (ih _ _ h k)
    · cases h
  · rename_i heq
    cases heq
    split at h
    · rename_i hx hb; exact KC hx hb (ih _ _ h k)
    · cases h
  · rename_i heq
    cases heq
    split at h
    · rename_i hc hb
      split at h
      · rename_i hx; exact BM hc hx hb (ih _ _ h k)
      · cases h
    · rename_i hc hb
      split at h
      · rename_i hx; exact BM hc hx hb (ih _ _ h k)
      · cases h
    · cases h
  · cases h
end
end Go.Sx
namespace Go.Sx
open Go.Proofs Go.Proofs.Tryz
theorem Ji {w : World} {op : BinOp} {t : TypeId} {x y : Operand} {a b : Array Value} (h : prog.eqGuardType prog.depth t = false) : (eqGuard op t x y (.agg a) (.agg b)).run prog w = .ok () w := by
 unfold eqGuard
 cases op <;> simp [h]
theorem Rq : prog.eqGuardType prog.depth 59 = false := by kernel_rfl
theorem Rn : prog.eqGuardType prog.depth 61 = false := by kernel_rfl
theorem Rw : prog.eqGuardType prog.depth 63 = false := by kernel_rfl
theorem Qy : prog.eqGuardType prog.depth 170 = false := by kernel_rfl
theorem JQ {w : World} {d : Nat} {a b : Int} : (Op.equalIn (d + 1) 3 (.int .i64 a) (.int .i64 b)).run prog w = .ok (a == b) w := by
 simp [Op.equalIn, runUnderlying3]
theorem Ls {w : World} {d : Nat} {a b : Bool} : (Op.equalIn (d + 1) 4 (.bool a) (.bool b)).run prog w = .ok (a == b) w := by
 simp [Op.equalIn, runUnderlying4]
theorem OU {a b : ByteArray} : (a == b) = decide (a = b) := by
 cases a with | mk x =>
 cases b with | mk y =>
 have h : (ByteArray.mk x == ByteArray.mk y) = (x == y) := rfl
 rw [h]
 by_cases hxy : x = y
 · subst hxy; simp
 · simp [hxy]
theorem In {w : World} {d : Nat} {a b : ByteArray} : (Op.equalIn (d + 1) 9 (.string a) (.string b)).run prog w = .ok (decide (a = b)) w := by
 rw [← OU]
 simp [Op.equalIn, runUnderlying9]
theorem Nc {w : World} {xs : Array Value} {i : Nat} {v : Value} (h : xs[i]? = some v) : (part 3 xs i).run prog w = .ok v w := by
 simp [part, isAgg3, h]
theorem LV {w : World} {xs : Array Value} {i : Nat} {v : Value} (h : xs[i]? = some v) : (part 9 xs i).run prog w = .ok v w := by
 simp [part, isAgg9, h]
theorem Pc {w : World} {d : Nat} {t : TypeId} (ht : t = 59 ∨ t = 61 ∨ t = 170) {a b : Int} {s r : ByteArray} : (Op.equalIn (d + 2) t (.agg #[.int .i64 a, .string s]) (.agg #[.int .i64 b, .string r])).run prog w = .ok (decide (a = b) && decide (s = r)) w := by
 have p1 : ∀ (x : Int) (y : ByteArray) (w : World), (part 3 #[.int .i64 x, .string y] 0).run prog w = .ok (.int .i64 x) w := fun x y w => Nc rfl
 have p2 : ∀ (x : Int) (y : ByteArray) (w : World), (part 9 #[.int .i64 x, .string y] 1).run prog w = .ok (.string y) w := fun x y w => LV rfl
 rcases ht with rfl | rfl | rfl
 · rw [show d + 2 = (d + 1) + 1 from rfl]
   unfold Op.equalIn
   by_cases h1 : a = b <;> by_cases h2 : s = r <;> simp [runUnderlying59, p1, p2, JQ, In, h1, h2]
 · rw [show d + 2 = (d + 1) + 1 from rfl]
   unfold Op.equalIn
   by_cases h1 : a = b <;> by_cases h2 : s = r <;> simp [runUnderlying61, p1, p2, JQ, In, h1, h2]
 · rw [show d + 2 = (d + 1) + 1 from rfl]
   unfold Op.equalIn
   by_cases h1 : a = b <;> by_cases h2 : s = r <;> simp [runUnderlying170, p1, p2, JQ, In, h1, h2]
theorem OF {w : World} {d : Nat} {a b c e i j : Int} {s r o q : ByteArray} :
 (Op.equalIn (d + 3) 63 (.agg #[.int .i64 a, .int .i64 c, .int .i64 i, .string s, .string o]) (.agg #[.int .i64 b, .int .i64 e, .int .i64 j, .string r, .string q])).run prog w =
  .ok (decide (a = b) && decide (c = e) && (decide (i = j) && decide (s = r)) && decide (o = q)) w := by
 have p1 : ∀ (x y z : Int) (u v : ByteArray) (w : World), (part 3 #[.int .i64 x, .int .i64 y, .int .i64 z, .string u, .string v] 0).run prog w = .ok (.int .i64 x) w := fun x y z u v w => Nc rfl
 have p2 : ∀ (x y z : Int) (u v : ByteArray) (w : World), (part 3 #[.int .i64 x, .int .i64 y, .int .i64 z, .string u, .string v] 1).run prog w = .ok (.int .i64 y) w := fun x y z u v w => Nc rfl
 have p3 : ∀ (x y z : Int) (u v : ByteArray) (w : World), (part 61 #[.int .i64 x, .int .i64 y, .int .i64 z, .string u, .string v] 2).run prog w = .ok (.agg #[.int .i64 z, .string u]) w := fun x y z u v w => by
  simp [part, isAgg61, sizeOf61]
 have p4 : ∀ (x y z : Int) (u v : ByteArray) (w : World), (part 9 #[.int .i64 x, .int .i64 y, .int .i64 z, .string u, .string v] 4).run prog w = .ok (.string v) w := fun x y z u v w => LV rfl
 rw [show d + 3 = (d + 2) + 1 from rfl]
 unfold Op.equalIn
 by_cases h1 : a = b <;> by_cases h2 : c = e <;> by_cases h3 : i = j <;> by_cases h4 : s = r <;> by_cases h5 : o = q <;>
  simp [runUnderlying63, p1, p2, p3, p4, JQ, In, Pc (t := 61) (.inr (.inl rfl)), h1, h2, h3, h4, h5]
theorem GN {w : World} {t : TypeId} {a b : Array Value} {c : Bool} (h : (Op.equal t (.agg a) (.agg b)).run prog w = .ok c w) : (binOp .neq t (.agg a) (.agg b)).run prog w = .ok (.bool (!c)) w := by
 have h1 : binOp .neq t (.agg a) (.agg b) = (do pure (.bool (!(← Op.equal t (.agg a) (.agg b))))) := rfl
 rw [h1]
 simp only [Sem.run_bind, h, Result.andThen_ok, Sem.run_pure]
noncomputable def C6 (t u : T) : Bool := @decide (t = u) (Classical.propDecidable _)
theorem EJ {t u : T} (h : t = u) : C6 t u = true := @decide_eq_true _ (Classical.propDecidable _) h
theorem BL {t u : T} (h : t ≠ u) : C6 t u = false := @decide_eq_false _ (Classical.propDecidable _) h
theorem Jn {t u : T} {c : Bool} (h : t = u ↔ c = true) : C6 t u = c := by
 cases c with
 | true => exact EJ (h.2 V)
 | false => exact BL (fun e => by have := h.1 e; cases this)
theorem AZ {t u : T} (h : C6 t u = true) : t = u := @of_decide_eq_true _ (Classical.propDecidable _) h
theorem Bd {t u : T} (h : C6 t u = false) : t ≠ u := @of_decide_eq_false _ (Classical.propDecidable _) h
structure Neq (tid : TypeId) (f : Ty) : Prop where
 guard : ∀ {w0 : World} {S : Nat → Prop} {t u : T} {cs ds : List Value}, Rep w0 S t f cs → Rep w0 S u f ds → ∀ (x y : Operand) (w : World), (eqGuard .neq tid x y (CU f cs) (CU f ds)).run prog w = .ok () w
 run : ∀ {w0 : World} {S : Nat → Prop} {t u : T} {cs ds : List Value}, Rep w0 S t f cs → Rep w0 S u f ds → ∀ (w : World), (binOp .neq tid (CU f cs) (CU f ds)).run prog w = .ok (.bool (!C6 t u)) w
theorem neq3 : Neq 3 .int := by
 refine ⟨fun h k x y w => ?_, fun h k w => ?_⟩
 · obtain ⟨n, rfl, rfl, _⟩ := h.int_inv
   obtain ⟨m, rfl, rfl, _⟩ := k.int_inv
   unfold eqGuard; rfl
 · obtain ⟨n, rfl, rfl, _⟩ := h.int_inv
   obtain ⟨m, rfl, rfl, _⟩ := k.int_inv
   rw [Jn (c := decide (n = m)) (by simp)]
   exact BO V
theorem neq4 : Neq 4 .bool := by
 refine ⟨fun h k x y w => ?_, fun h k w => ?_⟩
 · obtain ⟨n, rfl, rfl⟩ := h.bool_inv
   obtain ⟨m, rfl, rfl⟩ := k.bool_inv
   unfold eqGuard; rfl
 · obtain ⟨n, rfl, rfl⟩ := h.bool_inv
   obtain ⟨m, rfl, rfl⟩ := k.bool_inv
   rw [Jn (c := (n == m)) (by simp)]
   have h1 : binOp .neq 4 (.bool n) (.bool m) = (do pure (.bool (!(← Op.equal 4 (.bool n) (.bool m))))) := rfl
   have h2 : (Op.equal 4 (.bool n) (.bool m)).run prog w = .ok (n == m) w := Ls (d := 9999)
   show (binOp .neq 4 (.bool n) (.bool m)).run prog w = _
   rw [h1]
   simp only [Sem.run_bind, h2, Result.andThen_ok, Sem.run_pure]
theorem neq9 : Neq 9 .str := by
 refine ⟨fun h k x y w => ?_, fun h k w => ?_⟩
 · obtain ⟨n, rfl, rfl, _⟩ := h.str_inv
   obtain ⟨m, rfl, rfl, _⟩ := k.str_inv
   unfold eqGuard; rfl
 · obtain ⟨n, rfl, rfl, _⟩ := h.str_inv
   obtain ⟨m, rfl, rfl, _⟩ := k.str_inv
   rw [Jn (c := decide (n = m)) (by simp)]
   exact Du
theorem Mx {w : World} {S : Nat → Prop} {t : T} {sn : SN} {cs : List Value} (hs : sn.fields = [.int, .str]) (hz : sn.size = 2) (h : Rep w S t (.st sn) cs) : ∃ n s, t = .agg sn [.int n, .str s] ∧ cs = [.int .i64 n, .string s] := by
 obtain ⟨l, rfl, hl, hF⟩ := h.st_inv
 rw [hs] at hF
 obtain ⟨a, l, rfl, ra, hF⟩ := hF.cons_inv
 obtain ⟨b, l, rfl, rb, hF⟩ := hF.cons_inv
 obtain rfl := hF.nil_inv
 rw [hz] at hl
 obtain ⟨x, y, rfl⟩ : ∃ x y, cs = [x, y] := by
  match cs, hl with
  | [x, y], _ => exact ⟨x, y, rfl⟩
 simp only [Nat.zero_add, Ty.size, List.drop_zero, List.drop_succ_cons, List.take_succ_cons, List.take_zero] at ra rb
 obtain ⟨n, rfl, e, _⟩ := ra.int_inv
 obtain ⟨s, rfl, e', _⟩ := rb.str_inv
 cases e; cases e'
 exact ⟨n, s, rfl, rfl⟩
theorem Mq {tid : TypeId} {sn : SN} (hs : sn.fields = [.int, .str]) (hz : sn.size = 2) (ht : tid = 59 ∨ tid = 61 ∨ tid = 170) (hg : prog.eqGuardType prog.depth tid = false) : Neq tid (.st sn) := by
 refine ⟨fun h k x y w => ?_, fun h k w => ?_⟩
 · exact Ji hg
 · obtain ⟨n, s, rfl, rfl⟩ := Mx hs hz h
   obtain ⟨m, r, rfl, rfl⟩ := Mx hs hz k
   rw [Jn (c := decide (n = m) && decide (s = r)) (by simp)]
   exact GN (Pc (d := 9998) ht)
theorem neq59 : Neq 59 (.st .atom) := Mq rfl rfl (.inl rfl) Rq
theorem neq61 : Neq 61 (.st .test) := Mq rfl rfl (.inr (.inl rfl)) Rn
theorem neq170 : Neq 170 (.st .swap) := Mq rfl rfl (.inr (.inr rfl)) Qy
theorem L8 {w : World} {S : Nat → Prop} {t : T} {cs : List Value} (h : Rep w S t (.st .type) cs) : ∃ n m k s o, t = .agg .type [.int n, .int m, .agg .test [.int k, .str s], .str o] ∧ cs = [.int .i64 n, .int .i64 m, .int .i64 k, .string s, .string o] := by
 obtain ⟨l, rfl, hl, hF⟩ := h.st_inv
 obtain ⟨a, l, rfl, ra, hF⟩ := hF.cons_inv
 obtain ⟨b, l, rfl, rb, hF⟩ := hF.cons_inv
 obtain ⟨c, l, rfl, rc, hF⟩ := hF.cons_inv
 obtain ⟨d, l, rfl, rd, hF⟩ := hF.cons_inv
 obtain rfl := hF.nil_inv
 obtain ⟨x, y, z, u, v, rfl⟩ : ∃ x y z u v, cs = [x, y, z, u, v] := by
  match cs, hl with
  | [x, y, z, u, v], _ => exact ⟨x, y, z, u, v, rfl⟩
 simp only [Nat.zero_add, Nat.reduceAdd, Ty.size, SN.size, List.drop_zero, List.drop_succ_cons, List.take_succ_cons, List.take_zero] at ra rb rc rd
 obtain ⟨n, rfl, e1, _⟩ := ra.int_inv
 obtain ⟨m, rfl, e2, _⟩ := rb.int_inv
 obtain ⟨k, s, rfl, e3⟩ := Mx rfl rfl rc
 obtain ⟨o, rfl, e4, _⟩ := rd.str_inv
 cases e1; cases e2; cases e3; cases e4
 exact ⟨n, m, k, s, o, rfl, rfl⟩
theorem neq63 : Neq 63 (.st .type) := by
 refine ⟨fun h k x y w => ?_, fun h k w => ?_⟩
 · exact Ji Rw
 · obtain ⟨n, m, i, s, o, rfl, rfl⟩ := L8 h
   obtain ⟨n', m', i', s', o', rfl, rfl⟩ := L8 k
   rw [Jn (c := decide (n = n') && decide (m = m') && (decide (i = i') && decide (s = s')) && decide (o = o')) (by simp [and_assoc])]
   exact GN (OF (d := 9997))
end Go.Sx
namespace Go.Sx
open Go.Proofs Go.Proofs.Tryz
def SEnc (f : FuncId) (ty : Ty) (t u : T) : Prop :=
 ∀ {w : World} {S : Nat → Prop} {cs ds : List Value}, Rep w S t ty cs → Rep w S u ty ds →
  Calls prog f [CU ty cs, CU ty ds].toArray w (Dq (fun v w' => v = .bool (C6 t u) ∧ Fr (fun _ => False) w (fun _ => False) w') (fun _ _ => False))
abbrev F0 (w w' : World) : Prop := Fr (fun _ => False) w (fun _ => False) w'
section
variable {w0 w : World} {S : Nat → Prop} {t u : T} {f : Ty} {cs ds : List Value}
theorem F0.at_ (h : F0 w0 w) {b o : Nat} {cs : List Value} (hb : b < w0.heap.size) (hA : At w0 b o cs) : At w b o cs := hA.agree (h.blk b hb (fun h => h))
theorem F0.drawn (h : F0 w0 w) : F0 w0 w.drew := h.trans (Fr.drewn 1)
theorem SEnc.quiet {g : FuncId} {b : Bool} (s : SEnc g f t u) (hq : C6 t u = b) (hr : Rep w0 S t f cs) (hk : Rep w0 S u f ds) :
 ∀ w, F0 w0 w → Calls prog g [CU f cs, CU f ds].toArray w (fun e w'' => e = .returned (.bool b) ∧ F0 w0 w'') := by
 intro w h
 refine (s (hr.fresh h) (hk.fresh h)).mono ?_
 intro e w' he
 cases e with
 | returned v => obtain ⟨rfl, g⟩ := he; exact ⟨by rw [hq], h.trans g⟩
 | panicked ch => exact he.elim
 | outgrown => exact he.elim
theorem SEnc.call {g : FuncId} {b : Bool} (s : SEnc g f t u) (hq : C6 t u = b) (hr : Rep w0 S t f cs) (hk : Rep w0 S u f ds) (h : F0 w0 w) :
 Calls prog g [CU f cs, CU f ds].toArray w (Dq (fun v w' => v = .bool b ∧ F0 w0 w') (fun _ _ => False)) := by
 refine (s (hr.fresh h) (hk.fresh h)).mono ?_
 intro e w' he
 cases e with
 | returned v => obtain ⟨rfl, g⟩ := he; exact ⟨by rw [hq], h.trans g⟩
 | panicked ch => exact he.elim
 | outgrown => exact he.elim
theorem Neq.run' {tid : TypeId} (n : Neq tid f) {b : Bool} (hq : C6 t u = b) (hr : Rep w0 S t f cs) (hk : Rep w0 S u f ds) (w : World) : (binOp .neq tid (CU f cs) (CU f ds)).run prog w = .ok (.bool (!b)) w := by
 rw [← hq]; exact n.run hr hk w
end
theorem Da {la lb : List T} (h : la.length ≠ lb.length) : C6 (.list la) (.list lb) = false := BL (fun e => h (by cases e; rfl))
theorem Bj {la lb : List T} {i : Nat} {a b : T} (ha : la[i]? = some a) (hb : lb[i]? = some b) (h : a ≠ b) : C6 (.list la) (.list lb) = false := BL (fun e => by
 cases e
 rw [ha] at hb
 exact h (Option.some.inj hb))
theorem CA {la lb : List T} {i : Nat} (hl : la.length = lb.length) (hi : i = la.length) (h : ∀ j, j < i → la[j]? = lb[j]?) : C6 (.list la) (.list lb) = true := EJ (by
 congr 1
 apply List.ext_getElem?
 intro j
 by_cases hj : j < i
 · exact h j hj
 · rw [List.getElem?_eq_none (by omega), List.getElem?_eq_none (by omega)])
theorem C9 {la lb : List T} {i : Nat} {a b : T} (h : ∀ j, j < i → la[j]? = lb[j]?) (ha : la[i]? = some a) (hb : lb[i]? = some b) (e : a = b) : ∀ j, j < i + 1 → la[j]? = lb[j]? := by
 intro j hj
 rcases Nat.lt_succ_iff_lt_or_eq.1 hj with h1 | rfl
 · exact h j h1
 · rw [ha, hb, e]
theorem BZ {a b : Nat} : decide (a ≠ b) = !decide ((a : Int) = (b : Int)) := by
 by_cases h : a = b
 · simp [h]
 · have : ¬ ((a : Int) = (b : Int)) := by omega
   simp [h, this]
theorem QD {t u : T} : SEnc 91 (.list .str) t u := by
 intro w S cs ds hr hk
 obtain ⟨la, rfl⟩ := hr.is_list
 obtain ⟨lb, rfl⟩ := hk.is_list
 obtain ⟨ga, capa, hva, hmla, hgeta⟩ := Bn hr
 obtain ⟨gb, capb, hvb, hmlb, hgetb⟩ := Bn hk
 rw [hva, hvb]
 refine AB 26 func91 V V V ?_
 refine Af (Aa (Ah V V (Ae ?_)))
 refine Af (Af (Aa (Ac V V (AE V (Ay underlying44) V (Ac V V (AE V (Ay underlying44) V (Al V V (BO (c := decide (la.length ≠ lb.length)) BZ) V (Ae (AK V (fun ht => ?_) (fun hf => A_ fun a ha => Ad ?_))))))))))
 · have hne : la.length ≠ lb.length := of_decide_eq_true ht
   refine Af (Aa (Ah V V (Ae (AA fun a ha => Ao (Au V ha V ⟨by rw [Da hne], Fr.refl _ _⟩)))))
 have hle : la.length = lb.length := Classical.byContradiction (of_decide_eq_false hf)
 refine A8 ha (Af (Af (Aa (Ah V V (Ae ?_)))))
 refine A1 (AW (ι := Nat × World) (fun i => [(0, .slice ga la.length capa), (1, .slice gb lb.length capb), (5, .int .i64 (i.1 : Int))]) (fun i w' => w' = i.2 ∧ i.1 ≤ la.length ∧ F0 w w' ∧ ∀ j, j < i.1 → la[j]? = lb[j]?) (fun i => la.length - i.1)
  (0, w) ⟨V, V, V, trivial⟩ ⟨rfl, Nat.zero_le _, Fr.refl _ _, fun j hj => absurd hj (Nat.not_lt_zero j)⟩ ?_)
 rintro ⟨i, _⟩ w1 ⟨rfl, hi, h, hall⟩
 simp only at hi h hall ⊢
 refine Af (Af (Aa (Ac V V (Ac V V (AE V (Ay underlying44) V (Al V V (Bh (c := decide (i < la.length)) (decide_eq_decide.2 Int.ofNat_lt.symm)) V (Ae (AK V (fun ht => A_ fun a ha => Ad ?_) (fun hf => AQ fun a ha => Aq (Aq (A3 (Ad ?_))))))))))))
 · have hil : i < la.length := of_decide_eq_true ht
   obtain ⟨ta, hta⟩ : ∃ t, la[i]? = some t := ⟨_, List.getElem?_eq_getElem hil⟩
   obtain ⟨tb, htb⟩ : ∃ t, lb[i]? = some t := ⟨_, List.getElem?_eq_getElem (hle ▸ hil)⟩
   obtain ⟨ba, oa, da, hixa, _, hlta, hAa, ra⟩ := hgeta i ta hta
   obtain ⟨bb, ob, db, hixb, _, hltb, hAb, rb⟩ := hgetb i tb htb
   refine A8 ha (Af (A1 (Af (C_ (F0 w) CE (by kernel_rfl) h.drawn ?_))))
   refine A6 V V (A6 V V (AC V V (fun w => hixa w underlying44 Cc V) V (AM V (fun w h => Ap (f := .str) Cc ra (h.at_ hlta hAa)) V ?_)))
   refine A6 V V (A6 V V (AC V V (fun w => hixb w underlying44 Cc V) V (AM V (fun w h => Ap (f := .str) Cc rb (h.at_ hltb hAb)) V ?_)))
   cases hq : C6 ta tb with
   | false =>
    refine Bc V V (neq9.guard ra rb _ _) (neq9.run' hq ra rb) V ?_
    refine BI _ _ _ V (Bm fun w' h' => Ax V ?_)
    refine Af (Aa (Ah V V (Ae (AA fun a ha => Aw (Ao (Ao (Aw (Ao (Au V ha V ⟨by rw [Bj hta htb (Bd hq)], h'⟩)))))))))
   | true =>
    refine Bc V V (neq9.guard ra rb _ _) (neq9.run' hq ra rb) V ?_
    refine Bm fun w' h' => A9 V (A_ fun a ha => Az (Ad ?_))
    refine A8 ha (Aa (Ac V V (Al V V V V (Ah V V (A2 fun a ha => Ad ?_)))))
    exact ⟨(i + 1, w'), ha.weak ⟨rfl, rfl, congrArg some (AS (BS hil hmla)), trivial⟩, ⟨rfl, hil, h', C9 hall hta htb (AZ hq)⟩, Nat.sub_lt_sub_left hil (Nat.lt_succ_self i)⟩
 · have hend : i = la.length := Nat.le_antisymm hi (Nat.le_of_not_lt (of_decide_eq_false hf))
   refine A8 ha (Af (Aa (Ah V V (Ae (AA fun a ha => Au V ha V ⟨by rw [CA hle hend hall], h⟩)))))
end Go.Sx
namespace Go.Sx
open Go.Proofs Go.Proofs.Tryz
theorem PT {t u : T} : SEnc 204 (.list (.int)) t u := by
 intro w S cs ds hr hk
 obtain ⟨la, rfl⟩ := hr.is_list
 obtain ⟨lb, rfl⟩ := hk.is_list
 obtain ⟨ga, capa, hva, hmla, hgeta⟩ := Bn hr
 obtain ⟨gb, capb, hvb, hmlb, hgetb⟩ := Bn hk
 rw [hva, hvb]
 refine AB 26 func204 V V V ?_
 refine Af (Aa (Ah V V (Ae ?_)))
 refine Af (Af (Aa (Ac V V (AE V (Ay underlying262) V (Ac V V (AE V (Ay underlying262) V (Al V V (BO (c := decide (la.length ≠ lb.length)) BZ) V (Ae (AK V (fun ht => ?_) (fun hf => A_ fun a ha => Ad ?_))))))))))
 · have hne : la.length ≠ lb.length := of_decide_eq_true ht
   refine Af (Aa (Ah V V (Ae (AA fun a ha => Ao (Au V ha V ⟨by rw [Da hne], Fr.refl _ _⟩)))))
 have hle : la.length = lb.length := Classical.byContradiction (of_decide_eq_false hf)
 refine A8 ha (Af (Af (Aa (Ah V V (Ae ?_)))))
 refine A1 (AW (ι := Nat × World) (fun i => [(0, .slice ga la.length capa), (1, .slice gb lb.length capb), (5, .int .i64 (i.1 : Int))]) (fun i w' => w' = i.2 ∧ i.1 ≤ la.length ∧ F0 w w' ∧ ∀ j, j < i.1 → la[j]? = lb[j]?) (fun i => la.length - i.1)
  (0, w) ⟨V, V, V, trivial⟩ ⟨rfl, Nat.zero_le _, Fr.refl _ _, fun j hj => absurd hj (Nat.not_lt_zero j)⟩ ?_)
 rintro ⟨i, _⟩ w1 ⟨rfl, hi, h, hall⟩
 simp only at hi h hall ⊢
 refine Af (Af (Aa (Ac V V (Ac V V (AE V (Ay underlying262) V (Al V V (Bh (c := decide (i < la.length)) (decide_eq_decide.2 Int.ofNat_lt.symm)) V (Ae (AK V (fun ht => A_ fun a ha => Ad ?_) (fun hf => AQ fun a ha => Aq (Aq (A3 (Ad ?_))))))))))))
 · have hil : i < la.length := of_decide_eq_true ht
   obtain ⟨ta, hta⟩ : ∃ t, la[i]? = some t := ⟨_, List.getElem?_eq_getElem hil⟩
   obtain ⟨tb, htb⟩ : ∃ t, lb[i]? = some t := ⟨_, List.getElem?_eq_getElem (hle ▸ hil)⟩
   have hwa := B5 (List.mem_of_getElem? hta)
   obtain ⟨ba, oa, da, hixa, _, hlta, hAa, ra⟩ := hgeta i ta hta
   obtain ⟨bb, ob, db, hixb, _, hltb, hAb, rb⟩ := hgetb i tb htb
   refine A8 ha (Af (A1 (Af (C_ (F0 w) CE (by kernel_rfl) h.drawn ?_))))
   clear h
   refine A6 V V (A6 V V (AC V V (fun w => hixa w underlying262 Cj V) V (AM V (fun w h => Ap (f := .int) Cj ra (h.at_ hlta hAa)) V (A6 V V (A6 V V (AC V V (fun w => hixb w underlying262 Cj V) V (AM V (fun w h => Ap (f := .int) Cj rb (h.at_ hltb hAb)) V (?_))))))))
   cases hq1 : C6 ta tb with
   | false =>
    refine Bc V V (neq3.guard ra rb _ _) (neq3.run' hq1 ra rb) V ?_
    refine BI _ _ _ V (Bm fun w1 h => Ax V ?_)
    exact Af (Aa (Ah V V (Ae (AA fun a ha => Aw (Ao (Ao (Aw (Ao (Au V ha V ⟨by rw [Bj hta htb (Bd hq1)], h⟩)))))))))
   | true =>
    refine Bc V V (neq3.guard ra rb _ _) (neq3.run' hq1 ra rb) V (Bm fun w1 h => A9 V (A_ fun a ha => Az (Ad ?_)))
    refine A8 ha (Aa (Ac V V (Al V V V V (Ah V V (A2 fun a ha => Ad ?_)))))
    exact ⟨(i + 1, w1), ha.weak ⟨rfl, rfl, congrArg some (AS (BS hil hmla)), trivial⟩, ⟨rfl, hil, h, C9 hall hta htb (AZ hq1)⟩, Nat.sub_lt_sub_left hil (Nat.lt_succ_self i)⟩
 · have hend : i = la.length := Nat.le_antisymm hi (Nat.le_of_not_lt (of_decide_eq_false hf))
   exact A8 ha (Af (Aa (Ah V V (Ae (AA fun a ha => Au V ha V ⟨by rw [CA hle hend hall], h⟩)))))
theorem Sh {t u : T} (ih : ∀ t' u', t'.wt < t.wt → SEnc 94 (.st .expr) t' u') : SEnc 90 (.list (.st .expr)) t u := by
 intro w S cs ds hr hk
 obtain ⟨la, rfl⟩ := hr.is_list
 obtain ⟨lb, rfl⟩ := hk.is_list
 obtain ⟨ga, capa, hva, hmla, hgeta⟩ := Bn hr
 obtain ⟨gb, capb, hvb, hmlb, hgetb⟩ := Bn hk
 rw [hva, hvb]
 refine AB 27 func90 V V V ?_
 refine Af (Aa (Ah V V (Ae ?_)))
 refine Af (Af (Aa (Ac V V (AE V (Ay underlying64) V (Ac V V (AE V (Ay underlying64) V (Al V V (BO (c := decide (la.length ≠ lb.length)) BZ) V (Ae (AK V (fun ht => ?_) (fun hf => A_ fun a ha => Ad ?_))))))))))
 · have hne : la.length ≠ lb.length := of_decide_eq_true ht
   refine Af (Aa (Ah V V (Ae (AA fun a ha => Ao (Au V ha V ⟨by rw [Da hne], Fr.refl _ _⟩)))))
 have hle : la.length = lb.length := Classical.byContradiction (of_decide_eq_false hf)
 refine A8 ha (Af (Af (Aa (Ah V V (Ae ?_)))))
 refine A1 (AW (ι := Nat × World) (fun i => [(0, .slice ga la.length capa), (1, .slice gb lb.length capb), (5, .int .i64 (i.1 : Int))]) (fun i w' => w' = i.2 ∧ i.1 ≤ la.length ∧ F0 w w' ∧ ∀ j, j < i.1 → la[j]? = lb[j]?) (fun i => la.length - i.1)
  (0, w) ⟨V, V, V, trivial⟩ ⟨rfl, Nat.zero_le _, Fr.refl _ _, fun j hj => absurd hj (Nat.not_lt_zero j)⟩ ?_)
 rintro ⟨i, _⟩ w1 ⟨rfl, hi, h, hall⟩
 simp only at hi h hall ⊢
 refine Af (Af (Aa (Ac V V (Ac V V (AE V (Ay underlying64) V (Al V V (Bh (c := decide (i < la.length)) (decide_eq_decide.2 Int.ofNat_lt.symm)) V (Ae (AK V (fun ht => A_ fun a ha => Ad ?_) (fun hf => AQ fun a ha => Aq (Aq (A3 (Ad ?_))))))))))))
 · have hil : i < la.length := of_decide_eq_true ht
   obtain ⟨ta, hta⟩ : ∃ t, la[i]? = some t := ⟨_, List.getElem?_eq_getElem hil⟩
   obtain ⟨tb, htb⟩ : ∃ t, lb[i]? = some t := ⟨_, List.getElem?_eq_getElem (hle ▸ hil)⟩
   have hwa := B5 (List.mem_of_getElem? hta)
   obtain ⟨ba, oa, da, hixa, _, hlta, hAa, ra⟩ := hgeta i ta hta
   obtain ⟨bb, ob, db, hixb, _, hltb, hAb, rb⟩ := hgetb i tb htb
   refine A8 ha (Af (A1 (Af (C_ (F0 w) CE (by kernel_rfl) h.drawn ?_))))
   clear h
   refine A6 V V (A6 V V (AC V V (fun w => hixa w underlying64 BY V) V (AM V (fun w h => Ap (f := .st .expr) BY ra (h.at_ hlta hAa)) V (A6 V V (A6 V V (AC V V (fun w => hixb w underlying64 BY V) V (AM V (fun w h => Ap (f := .st .expr) BY rb (h.at_ hltb hAb)) V (?_))))))))
   cases hq2 : C6 ta tb with
   | false =>
    refine Cf call94 V V (SEnc.quiet (ih _ _ (IC hwa)) hq2 ra rb) (C4 V V ?_)
    refine BI _ _ _ V (Bm fun w1 h => Ax V ?_)
    exact Af (Aa (Ah V V (Ae (AA fun a ha => Aw (Ao (Ao (Aw (Ao (Au V ha V ⟨by rw [Bj hta htb (Bd hq2)], h⟩)))))))))
   | true =>
    refine Cf call94 V V (SEnc.quiet (ih _ _ (IC hwa)) hq2 ra rb) (C4 V V (Bm fun w1 h => A9 V (A_ fun a ha => Az (Ad ?_))))
    refine A8 ha (Aa (Ac V V (Al V V V V (Ah V V (A2 fun a ha => Ad ?_)))))
    exact ⟨(i + 1, w1), ha.weak ⟨rfl, rfl, congrArg some (AS (BS hil hmla)), trivial⟩, ⟨rfl, hil, h, C9 hall hta htb (AZ hq2)⟩, Nat.sub_lt_sub_left hil (Nat.lt_succ_self i)⟩
 · have hend : i = la.length := Nat.le_antisymm hi (Nat.le_of_not_lt (of_decide_eq_false hf))
   exact A8 ha (Af (Aa (Ah V V (Ae (AA fun a ha => Au V ha V ⟨by rw [CA hle hend hall], h⟩)))))
theorem OJ {t u : T} (hX : ∀ t u, SEnc 94 (.st .expr) t u) : SEnc 146 (.list (.st .part)) t u := by
 intro w S cs ds hr hk
 obtain ⟨la, rfl⟩ := hr.is_list
 obtain ⟨lb, rfl⟩ := hk.is_list
 obtain ⟨ga, capa, hva, hmla, hgeta⟩ := Bn hr
 obtain ⟨gb, capb, hvb, hmlb, hgetb⟩ := Bn hk
 rw [hva, hvb]
 refine AB 55 func146 V V V ?_
 refine Af (Aa (Ah V V (Ae ?_)))
 refine Af (Af (Aa (Ac V V (AE V (Ay underlying57) V (Ac V V (AE V (Ay underlying57) V (Al V V (BO (c := decide (la.length ≠ lb.length)) BZ) V (Ae (AK V (fun ht => ?_) (fun hf => A_ fun a ha => Ad ?_))))))))))
 · have hne : la.length ≠ lb.length := of_decide_eq_true ht
   refine Af (Aa (Ah V V (Ae (AA fun a ha => Ao (Au V ha V ⟨by rw [Da hne], Fr.refl _ _⟩)))))
 have hle : la.length = lb.length := Classical.byContradiction (of_decide_eq_false hf)
 refine A8 ha (Af (Af (Aa (Ah V V (Ae ?_)))))
 refine A1 (AW (ι := Nat × World) (fun i => [(0, .slice ga la.length capa), (1, .slice gb lb.length capb), (5, .int .i64 (i.1 : Int))]) (fun i w' => w' = i.2 ∧ i.1 ≤ la.length ∧ F0 w w' ∧ ∀ j, j < i.1 → la[j]? = lb[j]?) (fun i => la.length - i.1)
  (0, w) ⟨V, V, V, trivial⟩ ⟨rfl, Nat.zero_le _, Fr.refl _ _, fun j hj => absurd hj (Nat.not_lt_zero j)⟩ ?_)
 rintro ⟨i, _⟩ w1 ⟨rfl, hi, h, hall⟩
 simp only at hi h hall ⊢
 refine Af (Af (Aa (Ac V V (Ac V V (AE V (Ay underlying57) V (Al V V (Bh (c := decide (i < la.length)) (decide_eq_decide.2 Int.ofNat_lt.symm)) V (Ae (AK V (fun ht => A_ fun a ha => Ad ?_) (fun hf => AQ fun a ha => Aq (Aq (A3 (Ad ?_))))))))))))
 · have hil : i < la.length := of_decide_eq_true ht
   obtain ⟨ta, hta⟩ : ∃ t, la[i]? = some t := ⟨_, List.getElem?_eq_getElem hil⟩
   obtain ⟨tb, htb⟩ : ∃ t, lb[i]? = some t := ⟨_, List.getElem?_eq_getElem (hle ▸ hil)⟩
   have hwa := B5 (List.mem_of_getElem? hta)
   obtain ⟨ba, oa, da, hixa, _, hlta, hAa, ra⟩ := hgeta i ta hta
   obtain ⟨bb, ob, db, hixb, _, hltb, hAb, rb⟩ := hgetb i tb htb
   obtain ⟨fla, rfl, hlena, hFa⟩ := ra.st_inv
   obtain ⟨aa_0, fla, rfl, ra_0, hFa⟩ := hFa.cons_inv
   obtain ⟨aa_1, fla, rfl, ra_1, hFa⟩ := hFa.cons_inv
   obtain ⟨aa_2, fla, rfl, ra_2, hFa⟩ := hFa.cons_inv
   obtain rfl := hFa.nil_inv
   simp only [Nat.zero_add, Nat.reduceAdd, Ty.size, SN.size] at ra_0 ra_1 ra_2
   obtain ⟨flb, rfl, hlenb, hFb⟩ := rb.st_inv
   obtain ⟨ab_0, flb, rfl, rb_0, hFb⟩ := hFb.cons_inv
   obtain ⟨ab_1, flb, rfl, rb_1, hFb⟩ := hFb.cons_inv
   obtain ⟨ab_2, flb, rfl, rb_2, hFb⟩ := hFb.cons_inv
   obtain rfl := hFb.nil_inv
   simp only [Nat.zero_add, Nat.reduceAdd, Ty.size, SN.size] at rb_0 rb_1 rb_2
   refine A8 ha (Af (A1 (Af (C_ (F0 w) CE (by kernel_rfl) h.drawn ?_))))
   clear h
   refine A6 V V (A6 V V (AC V V (fun w => hixa w underlying57 Eq V) V (A5 V (fun w => Gx w _ _) V (AM V (fun w h => Ap (f := .str) Cc ra_0 (h.at_ hlta (hAa.sub 0 1))) V (A6 V V (A6 V V (AC V V (fun w => hixb w underlying57 Eq V) V (A5 V (fun w => Gx w _ _) V (AM V (fun w h => Ap (f := .str) Cc rb_0 (h.at_ hltb (hAb.sub 0 1))) V (?_))))))))))
   cases hq3 : C6 aa_0 ab_0 with
   | false =>
    refine Bc V V (neq9.guard ra_0 rb_0 _ _) (neq9.run' hq3 ra_0 rb_0) V ?_
    refine BI _ _ _ V (Bm fun w1 h => Ax V ?_)
    exact Af (Aa (Ah V V (Ae (AA fun a ha => Aw (Ao (Ao (Aw (Ao (Au V ha V ⟨by rw [Bj hta htb (fun e => by cases e; exact Bd hq3 V)], h⟩)))))))))
   | true =>
    refine Bc V V (neq9.guard ra_0 rb_0 _ _) (neq9.run' hq3 ra_0 rb_0) V (A6 V V (Ak (j := 11) V V V (A6 V V (Ak (j := 11) V V V (A6 V V (Ak (j := 11) V V V (AC V V (fun w => hixa w underlying57 Eq V) V (Ak (j := 11) V V V (A5 V (fun w => Fu w _ _) V (Ak (j := 11) V V V (AM V (fun w h => Ap (f := .bool) Dp ra_1 (h.at_ hlta (hAa.sub 1 1))) V (Ak (j := 11) V V V (A6 V V (Ak (j := 11) V V V (A6 V V (Ak (j := 11) V V V (AC V V (fun w => hixb w underlying57 Eq V) V (Ak (j := 11) V V V (A5 V (fun w => Fu w _ _) V (Ak (j := 11) V V V (AM V (fun w h => Ap (f := .bool) Dp rb_1 (h.at_ hltb (hAb.sub 1 1))) V (?_))))))))))))))))))))))
    cases hq4 : C6 aa_1 ab_1 with
    | false =>
     refine Ak (j := 11) V V V (Bc V V (neq4.guard ra_1 rb_1 _ _) (neq4.run' hq4 ra_1 rb_1) V ?_)
     refine BI _ _ _ V (Bm fun w1 h => Ax V ?_)
     exact Af (Aa (Ah V V (Ae (AA fun a ha => Aw (Ao (Ao (Aw (Ao (Au V ha V ⟨by rw [Bj hta htb (fun e => by cases e; exact Bd hq4 V)], h⟩)))))))))
    | true =>
     refine Ak (j := 11) V V V (Bc V V (neq4.guard ra_1 rb_1 _ _) (neq4.run' hq4 ra_1 rb_1) V (BM V V V (A6 V V (Ak (j := 24) V V V (A6 V V (Ak (j := 24) V V V (A6 V V (Ak (j := 24) V V V (AC V V (fun w => hixa w underlying57 Eq V) V (Ak (j := 24) V V V (A5 V (fun w => Ga w _ _) V (Ak (j := 24) V V V (AM V (fun w h => Ap (f := .st .expr) BY ra_2 (h.at_ hlta (hAa.sub 2 16))) V (Ak (j := 24) V V V (A6 V V (Ak (j := 24) V V V (A6 V V (Ak (j := 24) V V V (AC V V (fun w => hixb w underlying57 Eq V) V (Ak (j := 24) V V V (A5 V (fun w => Ga w _ _) V (Ak (j := 24) V V V (AM V (fun w h => Ap (f := .st .expr) BY rb_2 (h.at_ hltb (hAb.sub 2 16))) V (?_))))))))))))))))))))))))
     cases hq5 : C6 aa_2 ab_2 with
     | false =>
      refine Ak (j := 24) V V V (Cf call94 V V (SEnc.quiet (hX _ _) hq5 ra_2 rb_2) (Ak (j := 24) V V V (C4 V V ?_)))
      refine BI _ _ _ V (Bm fun w1 h => Ax V ?_)
      exact Af (Aa (Ah V V (Ae (AA fun a ha => Aw (Ao (Ao (Aw (Ao (Au V ha V ⟨by rw [Bj hta htb (fun e => by cases e; exact Bd hq5 V)], h⟩)))))))))
     | true =>
      refine Ak (j := 24) V V V (Cf call94 V V (SEnc.quiet (hX _ _) hq5 ra_2 rb_2) (Ak (j := 24) V V V (C4 V V (BM V V V (Bm fun w1 h => A9 V (A_ fun a ha => Az (Ad ?_)))))))
      refine A8 ha (Aa (Ac V V (Al V V V V (Ah V V (A2 fun a ha => Ad ?_)))))
      exact ⟨(i + 1, w1), ha.weak ⟨rfl, rfl, congrArg some (AS (BS hil hmla)), trivial⟩, ⟨rfl, hil, h, C9 hall hta htb (by rw [AZ hq3, AZ hq4, AZ hq5])⟩, Nat.sub_lt_sub_left hil (Nat.lt_succ_self i)⟩
 · have hend : i = la.length := Nat.le_antisymm hi (Nat.le_of_not_lt (of_decide_eq_false hf))
   exact A8 ha (Af (Aa (Ah V V (Ae (AA fun a ha => Au V ha V ⟨by rw [CA hle hend hall], h⟩)))))
theorem OQ {t u : T} (hX : ∀ t u, SEnc 94 (.st .expr) t u) : SEnc 147 (.list (.st .sort)) t u := by
 intro w S cs ds hr hk
 obtain ⟨la, rfl⟩ := hr.is_list
 obtain ⟨lb, rfl⟩ := hk.is_list
 obtain ⟨ga, capa, hva, hmla, hgeta⟩ := Bn hr
 obtain ⟨gb, capb, hvb, hmlb, hgetb⟩ := Bn hk
 rw [hva, hvb]
 refine AB 68 func147 V V V ?_
 refine Af (Aa (Ah V V (Ae ?_)))
 refine Af (Af (Aa (Ac V V (AE V (Ay underlying67) V (Ac V V (AE V (Ay underlying67) V (Al V V (BO (c := decide (la.length ≠ lb.length)) BZ) V (Ae (AK V (fun ht => ?_) (fun hf => A_ fun a ha => Ad ?_))))))))))
 · have hne : la.length ≠ lb.length := of_decide_eq_true ht
   refine Af (Aa (Ah V V (Ae (AA fun a ha => Ao (Au V ha V ⟨by rw [Da hne], Fr.refl _ _⟩)))))
 have hle : la.length = lb.length := Classical.byContradiction (of_decide_eq_false hf)
 refine A8 ha (Af (Af (Aa (Ah V V (Ae ?_)))))
 refine A1 (AW (ι := Nat × World) (fun i => [(0, .slice ga la.length capa), (1, .slice gb lb.length capb), (5, .int .i64 (i.1 : Int))]) (fun i w' => w' = i.2 ∧ i.1 ≤ la.length ∧ F0 w w' ∧ ∀ j, j < i.1 → la[j]? = lb[j]?) (fun i => la.length - i.1)
  (0, w) ⟨V, V, V, trivial⟩ ⟨rfl, Nat.zero_le _, Fr.refl _ _, fun j hj => absurd hj (Nat.not_lt_zero j)⟩ ?_)
 rintro ⟨i, _⟩ w1 ⟨rfl, hi, h, hall⟩
 simp only at hi h hall ⊢
 refine Af (Af (Aa (Ac V V (Ac V V (AE V (Ay underlying67) V (Al V V (Bh (c := decide (i < la.length)) (decide_eq_decide.2 Int.ofNat_lt.symm)) V (Ae (AK V (fun ht => A_ fun a ha => Ad ?_) (fun hf => AQ fun a ha => Aq (Aq (A3 (Ad ?_))))))))))))
 · have hil : i < la.length := of_decide_eq_true ht
   obtain ⟨ta, hta⟩ : ∃ t, la[i]? = some t := ⟨_, List.getElem?_eq_getElem hil⟩
   obtain ⟨tb, htb⟩ : ∃ t, lb[i]? = some t := ⟨_, List.getElem?_eq_getElem (hle ▸ hil)⟩
   have hwa := B5 (List.mem_of_getElem? hta)
   obtain ⟨ba, oa, da, hixa, _, hlta, hAa, ra⟩ := hgeta i ta hta
   obtain ⟨bb, ob, db, hixb, _, hltb, hAb, rb⟩ := hgetb i tb htb
   obtain ⟨fla, rfl, hlena, hFa⟩ := ra.st_inv
   obtain ⟨aa_0, fla, rfl, ra_0, hFa⟩ := hFa.cons_inv
   obtain ⟨aa_1, fla, rfl, ra_1, hFa⟩ := hFa.cons_inv
   obtain ⟨aa_2, fla, rfl, ra_2, hFa⟩ := hFa.cons_inv
   obtain ⟨aa_3, fla, rfl, ra_3, hFa⟩ := hFa.cons_inv
   obtain rfl := hFa.nil_inv
   simp only [Nat.zero_add, Nat.reduceAdd, Ty.size, SN.size] at ra_0 ra_1 ra_2 ra_3
   obtain ⟨flb, rfl, hlenb, hFb⟩ := rb.st_inv
   obtain ⟨ab_0, flb, rfl, rb_0, hFb⟩ := hFb.cons_inv
   obtain ⟨ab_1, flb, rfl, rb_1, hFb⟩ := hFb.cons_inv
   obtain ⟨ab_2, flb, rfl, rb_2, hFb⟩ := hFb.cons_inv
   obtain ⟨ab_3, flb, rfl, rb_3, hFb⟩ := hFb.cons_inv
   obtain rfl := hFb.nil_inv
   simp only [Nat.zero_add, Nat.reduceAdd, Ty.size, SN.size] at rb_0 rb_1 rb_2 rb_3
   refine A8 ha (Af (A1 (Af (C_ (F0 w) CE (by kernel_rfl) h.drawn ?_))))
   clear h
   refine A6 V V (A6 V V (AC V V (fun w => hixa w underlying67 DJ V) V (A5 V (fun w => FT w _ _) V (AM V (fun w h => Ap (f := .st .expr) BY ra_0 (h.at_ hlta (hAa.sub 0 16))) V (A6 V V (A6 V V (AC V V (fun w => hixb w underlying67 DJ V) V (A5 V (fun w => FT w _ _) V (AM V (fun w h => Ap (f := .st .expr) BY rb_0 (h.at_ hltb (hAb.sub 0 16))) V (?_))))))))))
   cases hq6 : C6 aa_0 ab_0 with
   | false =>
    refine Cf call94 V V (SEnc.quiet (hX _ _) hq6 ra_0 rb_0) (C4 V V ?_)
    refine BI _ _ _ V (Bm fun w1 h => Ax V ?_)
    exact Af (Aa (Ah V V (Ae (AA fun a ha => Aw (Ao (Ao (Aw (Ao (Au V ha V ⟨by rw [Bj hta htb (fun e => by cases e; exact Bd hq6 V)], h⟩)))))))))
   | true =>
    refine Cf call94 V V (SEnc.quiet (hX _ _) hq6 ra_0 rb_0) (C4 V V (A6 V V (Ak (j := 12) V V V (A6 V V (Ak (j := 12) V V V (A6 V V (Ak (j := 12) V V V (AC V V (fun w => hixa w underlying67 DJ V) V (Ak (j := 12) V V V (A5 V (fun w => Fy w _ _) V (Ak (j := 12) V V V (AM V (fun w h => Ap (f := .bool) Dp ra_1 (h.at_ hlta (hAa.sub 16 1))) V (Ak (j := 12) V V V (A6 V V (Ak (j := 12) V V V (A6 V V (Ak (j := 12) V V V (AC V V (fun w => hixb w underlying67 DJ V) V (Ak (j := 12) V V V (A5 V (fun w => Fy w _ _) V (Ak (j := 12) V V V (AM V (fun w h => Ap (f := .bool) Dp rb_1 (h.at_ hltb (hAb.sub 16 1))) V (?_)))))))))))))))))))))))
    cases hq7 : C6 aa_1 ab_1 with
    | false =>
     refine Ak (j := 12) V V V (Bc V V (neq4.guard ra_1 rb_1 _ _) (neq4.run' hq7 ra_1 rb_1) V ?_)
     refine BI _ _ _ V (Bm fun w1 h => Ax V ?_)
     exact Af (Aa (Ah V V (Ae (AA fun a ha => Aw (Ao (Ao (Aw (Ao (Au V ha V ⟨by rw [Bj hta htb (fun e => by cases e; exact Bd hq7 V)], h⟩)))))))))
    | true =>
     refine Ak (j := 12) V V V (Bc V V (neq4.guard ra_1 rb_1 _ _) (neq4.run' hq7 ra_1 rb_1) V (BM V V V (A6 V V (Ak (j := 25) V V V (A6 V V (Ak (j := 25) V V V (A6 V V (Ak (j := 25) V V V (AC V V (fun w => hixa w underlying67 DJ V) V (Ak (j := 25) V V V (A5 V (fun w => Gl w _ _) V (Ak (j := 25) V V V (AM V (fun w h => Ap (f := .bool) Dp ra_2 (h.at_ hlta (hAa.sub 17 1))) V (Ak (j := 25) V V V (A6 V V (Ak (j := 25) V V V (A6 V V (Ak (j := 25) V V V (AC V V (fun w => hixb w underlying67 DJ V) V (Ak (j := 25) V V V (A5 V (fun w => Gl w _ _) V (Ak (j := 25) V V V (AM V (fun w h => Ap (f := .bool) Dp rb_2 (h.at_ hltb (hAb.sub 17 1))) V (?_))))))))))))))))))))))))
     cases hq8 : C6 aa_2 ab_2 with
     | false =>
      refine Ak (j := 25) V V V (Bc V V (neq4.guard ra_2 rb_2 _ _) (neq4.run' hq8 ra_2 rb_2) V ?_)
      refine BI _ _ _ V (Bm fun w1 h => Ax V ?_)
      exact Af (Aa (Ah V V (Ae (AA fun a ha => Aw (Ao (Ao (Aw (Ao (Au V ha V ⟨by rw [Bj hta htb (fun e => by cases e; exact Bd hq8 V)], h⟩)))))))))
     | true =>
      refine Ak (j := 25) V V V (Bc V V (neq4.guard ra_2 rb_2 _ _) (neq4.run' hq8 ra_2 rb_2) V (BM V V V (A6 V V (Ak (j := 38) V V V (A6 V V (Ak (j := 38) V V V (A6 V V (Ak (j := 38) V V V (AC V V (fun w => hixa w underlying67 DJ V) V (Ak (j := 38) V V V (A5 V (fun w => Gy w _ _) V (Ak (j := 38) V V V (AM V (fun w h => Ap (f := .str) Cc ra_3 (h.at_ hlta (hAa.sub 18 1))) V (Ak (j := 38) V V V (A6 V V (Ak (j := 38) V V V (A6 V V (Ak (j := 38) V V V (AC V V (fun w => hixb w underlying67 DJ V) V (Ak (j := 38) V V V (A5 V (fun w => Gy w _ _) V (Ak (j := 38) V V V (AM V (fun w h => Ap (f := .str) Cc rb_3 (h.at_ hltb (hAb.sub 18 1))) V (?_))))))))))))))))))))))))
      cases hq9 : C6 aa_3 ab_3 with
      | false =>
       refine Ak (j := 38) V V V (Bc V V (neq9.guard ra_3 rb_3 _ _) (neq9.run' hq9 ra_3 rb_3) V ?_)
       refine BI _ _ _ V (Bm fun w1 h => Ax V ?_)
       exact Af (Aa (Ah V V (Ae (AA fun a ha => Aw (Ao (Ao (Aw (Ao (Au V ha V ⟨by rw [Bj hta htb (fun e => by cases e; exact Bd hq9 V)], h⟩)))))))))
      | true =>
       refine Ak (j := 38) V V V (Bc V V (neq9.guard ra_3 rb_3 _ _) (neq9.run' hq9 ra_3 rb_3) V (BM V V V (Bm fun w1 h => A9 V (A_ fun a ha => Az (Ad ?_)))))
       refine A8 ha (Aa (Ac V V (Al V V V V (Ah V V (A2 fun a ha => Ad ?_)))))
       exact ⟨(i + 1, w1), ha.weak ⟨rfl, rfl, congrArg some (AS (BS hil hmla)), trivial⟩, ⟨rfl, hil, h, C9 hall hta htb (by rw [AZ hq6, AZ hq7, AZ hq8, AZ hq9])⟩, Nat.sub_lt_sub_left hil (Nat.lt_succ_self i)⟩
 · have hend : i = la.length := Nat.le_antisymm hi (Nat.le_of_not_lt (of_decide_eq_false hf))
   exact A8 ha (Af (Aa (Ah V V (Ae (AA fun a ha => Au V ha V ⟨by rw [CA hle hend hall], h⟩)))))
theorem PW {t u : T} (hX : ∀ t u, SEnc 94 (.st .expr) t u) : SEnc 148 (.list (.st .source)) t u := by
 intro w S cs ds hr hk
 obtain ⟨la, rfl⟩ := hr.is_list
 obtain ⟨lb, rfl⟩ := hk.is_list
 obtain ⟨ga, capa, hva, hmla, hgeta⟩ := Bn hr
 obtain ⟨gb, capb, hvb, hmlb, hgetb⟩ := Bn hk
 rw [hva, hvb]
 refine AB 43 func148 V V V ?_
 refine Af (Aa (Ah V V (Ae ?_)))
 refine Af (Af (Aa (Ac V V (AE V (Ay underlying69) V (Ac V V (AE V (Ay underlying69) V (Al V V (BO (c := decide (la.length ≠ lb.length)) BZ) V (Ae (AK V (fun ht => ?_) (fun hf => A_ fun a ha => Ad ?_))))))))))
 · have hne : la.length ≠ lb.length := of_decide_eq_true ht
   refine Af (Aa (Ah V V (Ae (AA fun a ha => Ao (Au V ha V ⟨by rw [Da hne], Fr.refl _ _⟩)))))
 have hle : la.length = lb.length := Classical.byContradiction (of_decide_eq_false hf)
 refine A8 ha (Af (Af (Aa (Ah V V (Ae ?_)))))
 refine A1 (AW (ι := Nat × World) (fun i => [(0, .slice ga la.length capa), (1, .slice gb lb.length capb), (5, .int .i64 (i.1 : Int))]) (fun i w' => w' = i.2 ∧ i.1 ≤ la.length ∧ F0 w w' ∧ ∀ j, j < i.1 → la[j]? = lb[j]?) (fun i => la.length - i.1)
  (0, w) ⟨V, V, V, trivial⟩ ⟨rfl, Nat.zero_le _, Fr.refl _ _, fun j hj => absurd hj (Nat.not_lt_zero j)⟩ ?_)
 rintro ⟨i, _⟩ w1 ⟨rfl, hi, h, hall⟩
 simp only at hi h hall ⊢
 refine Af (Af (Aa (Ac V V (Ac V V (AE V (Ay underlying69) V (Al V V (Bh (c := decide (i < la.length)) (decide_eq_decide.2 Int.ofNat_lt.symm)) V (Ae (AK V (fun ht => A_ fun a ha => Ad ?_) (fun hf => AQ fun a ha => Aq (Aq (A3 (Ad ?_))))))))))))
 · have hil : i < la.length := of_decide_eq_true ht
   obtain ⟨ta, hta⟩ : ∃ t, la[i]? = some t := ⟨_, List.getElem?_eq_getElem hil⟩
   obtain ⟨tb, htb⟩ : ∃ t, lb[i]? = some t := ⟨_, List.getElem?_eq_getElem (hle ▸ hil)⟩
   have hwa := B5 (List.mem_of_getElem? hta)
   obtain ⟨ba, oa, da, hixa, _, hlta, hAa, ra⟩ := hgeta i ta hta
   obtain ⟨bb, ob, db, hixb, _, hltb, hAb, rb⟩ := hgetb i tb htb
   obtain ⟨fla, rfl, hlena, hFa⟩ := ra.st_inv
   obtain ⟨aa_0, fla, rfl, ra_0, hFa⟩ := hFa.cons_inv
   obtain ⟨aa_1, fla, rfl, ra_1, hFa⟩ := hFa.cons_inv
   obtain rfl := hFa.nil_inv
   simp only [Nat.zero_add, Ty.size, SN.size] at ra_0 ra_1
   obtain ⟨flb, rfl, hlenb, hFb⟩ := rb.st_inv
   obtain ⟨ab_0, flb, rfl, rb_0, hFb⟩ := hFb.cons_inv
   obtain ⟨ab_1, flb, rfl, rb_1, hFb⟩ := hFb.cons_inv
   obtain rfl := hFb.nil_inv
   simp only [Nat.zero_add, Ty.size, SN.size] at rb_0 rb_1
   refine A8 ha (Af (A1 (Af (C_ (F0 w) CE (by kernel_rfl) h.drawn ?_))))
   clear h
   refine A6 V V (A6 V V (AC V V (fun w => hixa w underlying69 Fj V) V (A5 V (fun w => Gk w _ _) V (AM V (fun w h => Ap (f := .st .expr) BY ra_0 (h.at_ hlta (hAa.sub 0 16))) V (A6 V V (A6 V V (AC V V (fun w => hixb w underlying69 Fj V) V (A5 V (fun w => Gk w _ _) V (AM V (fun w h => Ap (f := .st .expr) BY rb_0 (h.at_ hltb (hAb.sub 0 16))) V (?_))))))))))
   cases hq10 : C6 aa_0 ab_0 with
   | false =>
    refine Cf call94 V V (SEnc.quiet (hX _ _) hq10 ra_0 rb_0) (C4 V V ?_)
    refine BI _ _ _ V (Bm fun w1 h => Ax V ?_)
    exact Af (Aa (Ah V V (Ae (AA fun a ha => Aw (Ao (Ao (Aw (Ao (Au V ha V ⟨by rw [Bj hta htb (fun e => by cases e; exact Bd hq10 V)], h⟩)))))))))
   | true =>
    refine Cf call94 V V (SEnc.quiet (hX _ _) hq10 ra_0 rb_0) (C4 V V (A6 V V (Ak (j := 12) V V V (A6 V V (Ak (j := 12) V V V (A6 V V (Ak (j := 12) V V V (AC V V (fun w => hixa w underlying69 Fj V) V (Ak (j := 12) V V V (A5 V (fun w => Fv w _ _) V (Ak (j := 12) V V V (AM V (fun w h => Ap (f := .list (.st .sort)) J1 ra_1 (h.at_ hlta (hAa.sub 16 1))) V (Ak (j := 12) V V V (A6 V V (Ak (j := 12) V V V (A6 V V (Ak (j := 12) V V V (AC V V (fun w => hixb w underlying69 Fj V) V (Ak (j := 12) V V V (A5 V (fun w => Fv w _ _) V (Ak (j := 12) V V V (AM V (fun w h => Ap (f := .list (.st .sort)) J1 rb_1 (h.at_ hltb (hAb.sub 16 1))) V (?_)))))))))))))))))))))))
    cases hq11 : C6 aa_1 ab_1 with
    | false =>
     refine Ak (j := 12) V V V (Cf call147 V V (SEnc.quiet (OQ hX) hq11 ra_1 rb_1) (Ak (j := 12) V V V (C4 V V ?_)))
     refine BI _ _ _ V (Bm fun w1 h => Ax V ?_)
     exact Af (Aa (Ah V V (Ae (AA fun a ha => Aw (Ao (Ao (Aw (Ao (Au V ha V ⟨by rw [Bj hta htb (fun e => by cases e; exact Bd hq11 V)], h⟩)))))))))
    | true =>
     refine Ak (j := 12) V V V (Cf call147 V V (SEnc.quiet (OQ hX) hq11 ra_1 rb_1) (Ak (j := 12) V V V (C4 V V (BM V V V (Bm fun w1 h => A9 V (A_ fun a ha => Az (Ad ?_)))))))
     refine A8 ha (Aa (Ac V V (Al V V V V (Ah V V (A2 fun a ha => Ad ?_)))))
     exact ⟨(i + 1, w1), ha.weak ⟨rfl, rfl, congrArg some (AS (BS hil hmla)), trivial⟩, ⟨rfl, hil, h, C9 hall hta htb (by rw [AZ hq10, AZ hq11])⟩, Nat.sub_lt_sub_left hil (Nat.lt_succ_self i)⟩
 · have hend : i = la.length := Nat.le_antisymm hi (Nat.le_of_not_lt (of_decide_eq_false hf))
   exact A8 ha (Af (Aa (Ah V V (Ae (AA fun a ha => Au V ha V ⟨by rw [CA hle hend hall], h⟩)))))
end Go.Sx
