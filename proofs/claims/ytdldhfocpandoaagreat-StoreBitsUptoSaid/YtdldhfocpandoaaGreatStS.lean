import Derived.Test.YtdldhfocpandoaaGreatRows
import Derived.Test.YtdldhfocpandoaaGreatStL
import Derived.ChangeSlices
import Derived.Test.YtdldhfocpandoaaGreatStR
namespace Go.Sx
open Go.Proofs Go.Proofs.YtdldhfocpandoaaGreat Go.ChangeShapes Go.WideShapes Go.ChangeAt Go.RowKit
def snId : SN → TypeId
 | .atom => 59 | .test => 61 | .type => 63 | .expr => 66 | .part => 282 | .param => 216 | .sort => 286 | .source => 290 | .ctch => 294 | .instr => 72 | .template => 74 | .dfn => 140 | .global => 144
 | .key => 76 | .rule => 182 | .accum => 151 | .mode => 84 | .output => 157 | .swap => 170 | .charMap => 162 | .use => 48 | .sheet => 36
def snList : SN → TypeId
 | .accum => 31 | .charMap => 34 | .ctch => 70 | .dfn => 28 | .expr => 64 | .global => 29 | .instr => 56 | .key => 30 | .mode => 32 | .output => 33 | .param => 68 | .part => 57 | .rule => 149 | .sort => 67
 | .source => 69 | .swap => 160 | .template => 27 | .use => 26 | _ => 0
def tyId : Ty → TypeId
 | .int => 3
 | .bool => 4
 | .str => 9
 | .st s => snId s
 | .list .int => 262
 | .list .str => 44
 | .list (.st s) => snList s
 | .ptr (.st .sheet) => 46
 | _ => 0
def okTy : Ty → Bool
 | .int | .bool | .str | .st _ | .list .int | .list .str | .ptr (.st .sheet) => true
 | .list (.st s) => snList s != 0
 | _ => false
def laidF : List Field → List Ty → Nat → Bool
 | [], [], _ => true
 | f :: fs, t :: ts, o => f.type == tyId t && f.offset == o && okTy t && laidF fs ts (o + t.size)
 | _, _, _ => false
theorem sn_struct (s : SN) : ∃ fs, Tryz.prog.underlying (snId s) = some (.struct fs) ∧ laidF fs.toList s.fields 0 = true ∧ Tryz.prog.cellsOf (snId s) = s.size := by
 cases s
 · exact ⟨_, Tryz.underlying59, rfl, by kernel_rfl⟩
 · exact ⟨_, Tryz.underlying61, rfl, by kernel_rfl⟩
 · exact ⟨_, Tryz.underlying63, rfl, by kernel_rfl⟩
 · exact ⟨_, Tryz.underlying66, rfl, by kernel_rfl⟩
 · exact ⟨_, Tryz.underlying282, rfl, by kernel_rfl⟩
 · exact ⟨_, Tryz.underlying216, rfl, by kernel_rfl⟩
 · exact ⟨_, Tryz.underlying286, rfl, by kernel_rfl⟩
 · exact ⟨_, Tryz.underlying290, rfl, by kernel_rfl⟩
 · exact ⟨_, Tryz.underlying294, rfl, by kernel_rfl⟩
 · exact ⟨_, Tryz.underlying72, rfl, by kernel_rfl⟩
 · exact ⟨_, Tryz.underlying74, rfl, by kernel_rfl⟩
 · exact ⟨_, Tryz.underlying140, rfl, by kernel_rfl⟩
 · exact ⟨_, Tryz.underlying144, rfl, by kernel_rfl⟩
 · exact ⟨_, Tryz.underlying76, rfl, by kernel_rfl⟩
 · exact ⟨_, Tryz.underlying182, rfl, by kernel_rfl⟩
 · exact ⟨_, Tryz.underlying151, rfl, by kernel_rfl⟩
 · exact ⟨_, Tryz.underlying84, rfl, by kernel_rfl⟩
 · exact ⟨_, Tryz.underlying157, rfl, by kernel_rfl⟩
 · exact ⟨_, Tryz.underlying170, rfl, by kernel_rfl⟩
 · exact ⟨_, Tryz.underlying162, rfl, by kernel_rfl⟩
 · exact ⟨_, Tryz.underlying48, rfl, by kernel_rfl⟩
 · exact ⟨_, Tryz.underlying36, rfl, by kernel_rfl⟩
theorem cells_ok : ∀ (f : Ty), okTy f = true → Tryz.prog.cellsOf (tyId f) = f.size
 | .int, _ => by kernel_rfl
 | .bool, _ => by kernel_rfl
 | .str, _ => by kernel_rfl
 | .st s, _ => (sn_struct s).elim fun _ h => h.2.2
 | .list .int, _ => by kernel_rfl
 | .list .str, _ => by kernel_rfl
 | .list (.st s), h => by cases s <;> first | (exact absurd h (by decide)) | kernel_rfl
 | .ptr (.st .sheet), _ => by kernel_rfl
 | .list .bool, h | .list (.list _), h | .list (.ptr _), h => by simp [okTy] at h
 | .ptr .int, h | .ptr .bool, h | .ptr .str, h | .ptr (.list _), h | .ptr (.ptr _), h => by simp [okTy] at h
 | .ptr (.st s), h => by cases s <;> first | (exact absurd h (by decide)) | kernel_rfl
theorem list_ok : ∀ (e : Ty), okTy (.list e) = true → okTy e = true ∧ Tryz.prog.underlying (tyId (.list e)) = some (.slice (tyId e))
 | .int, _ => ⟨rfl, Tryz.underlying262⟩
 | .str, _ => ⟨rfl, Tryz.underlying44⟩
 | .st s, h => by
  refine ⟨rfl, ?_⟩
  cases s
  · exact absurd h (by decide)
  · exact absurd h (by decide)
  · exact absurd h (by decide)
  · exact Tryz.underlying64
  · exact Tryz.underlying57
  · exact Tryz.underlying68
  · exact Tryz.underlying67
  · exact Tryz.underlying69
  · exact Tryz.underlying70
  · exact Tryz.underlying56
  · exact Tryz.underlying27
  · exact Tryz.underlying28
  · exact Tryz.underlying29
  · exact Tryz.underlying30
  · exact Tryz.underlying149
  · exact Tryz.underlying31
  · exact Tryz.underlying32
  · exact Tryz.underlying33
  · exact Tryz.underlying160
  · exact Tryz.underlying34
  · exact Tryz.underlying26
  · exact absurd h (by decide)
 | .bool, h => by simp [okTy] at h
 | .list _, h => by simp [okTy] at h
 | .ptr _, h => by simp [okTy] at h
theorem ptr_ok : ∀ (e : Ty), okTy (.ptr e) = true → e = .st .sheet
 | .st s, h => by cases s <;> first | rfl | (exact absurd h (by decide))
 | .int, h => by simp [okTy] at h
 | .bool, h => by simp [okTy] at h
 | .str, h => by simp [okTy] at h
 | .list _, h => by simp [okTy] at h
 | .ptr _, h => by simp [okTy] at h
theorem cell_spot {w : World} {a : Addr} {v : Value} (h : w.cell? a = some v) : a.spot = none ∧ a.block < w.heap.size := by
 unfold World.cell? at h
 split at h
 · rename_i hh
   split at h
   · cases h
   · rename_i hs
     refine ⟨?_, (Array.getElem?_eq_some_iff.1 hh).1⟩
     cases hsp : a.spot with
     | none => rfl
     | some x => rw [hsp] at hs; exact absurd rfl hs
 · cases h
theorem add_flat {b o m k : Nat} : ((Addr.mk b o none).add m).add k = ⟨b, o + m + k, none⟩ := by
 unfold Addr.add
 split <;> split <;> simp_all [Nat.add_assoc]
theorem cells_at {w : World} {base b o n : Nat} {cs : List Value} (h : w.cells? base ⟨b, o, none⟩ n = some cs) : cs.length = n ∧ At w b o cs := by
 obtain ⟨_, h1, h2⟩ := World.cells?_some h
 refine ⟨h1, fun j v hj => ?_⟩
 have hjl := (List.getElem?_eq_some_iff.1 hj).1
 have := h2 j (by omega)
 rw [hj] at this
 have e := add_flat (b := b) (o := o) (m := 0) (k := j)
 rw [show (Addr.mk b o none).add 0 = ⟨b, o, none⟩ from rfl] at e
 rw [e] at this
 exact this
theorem cells_at' {w : World} {base b o m n : Nat} {cs : List Value} (h : w.cells? base ((Addr.mk b o none).add m) n = some cs) : cs.length = n ∧ At w b (o + m) cs := by
 have e : (Addr.mk b o none).add m = ⟨b, o + m, none⟩ := by
  have := add_flat (b := b) (o := o) (m := m) (k := 0)
  rw [show ((Addr.mk b o none).add m).add 0 = (Addr.mk b o none).add m from rfl] at this
  rw [this]; rfl
 rw [e] at h
 exact cells_at h
theorem repL_of {w : World} {S : Nat → Prop} {e : Ty} {H : Type} {b : Nat} : ∀ (xs : List (DataW H × List MemPlace)) (o : Nat),
 (∀ i x, xs[i]? = some x → ∃ ds t, At w b (o + i * e.size) ds ∧ ds.length = e.size ∧ Rep w S t e ds ∧ t.wt ≤ Rows.uptoBulk x.1) →
 ∃ l, l.length = xs.length ∧ RepL w S e l b o ∧ T.wts l ≤ Rows.uptoBulkAll (xs.map (·.1))
 | [], o, _ => ⟨[], rfl, by simp only [RepL], Nat.zero_le _⟩
 | x :: xs, o, h => by
  obtain ⟨ds, t, h1, h2, h3, h4⟩ := h 0 x rfl
  obtain ⟨l, k1, k2, k3⟩ := repL_of xs (o + e.size) (fun i y hy => by
   obtain ⟨ds, t, g1, g2⟩ := h (i + 1) y (by simpa using hy)
   refine ⟨ds, t, ?_, g2⟩
   rwa [show o + e.size + i * e.size = o + (i + 1) * e.size from by rw [Nat.add_mul]; omega])
  refine ⟨t :: l, by simp [k1], ?_, ?_⟩
  · simp only [RepL]
    exact ⟨⟨ds, by simpa using h1, h2, h3⟩, k2⟩
  · simp only [T.wts, List.map_cons, Rows.uptoBulkAll]; omega
theorem repF_of {w : World} {S : Nat → Prop} {H : Type} {cs : List Value} {r : TypeId → List Value → Option (DataW H × List MemPlace)}
 (hr : ∀ (f : Ty) (ds : List Value) x, okTy f = true → r (tyId f) ds = some x → ∃ t, Rep w S t f ds ∧ t.wt ≤ Rows.uptoBulk x.1) :
 ∀ (fs : List Field) (ts : List Ty) (o : Nat) (xs : List (DataW H × List MemPlace)), laidF fs ts o = true → xs.length = fs.length →
 (∀ (i : Nat) (f : Field), fs[i]? = some f → r f.type ((cs.drop f.offset).take (Tryz.prog.cellsOf f.type)) = xs[i]?) →
 ∃ l, RepF w S l ts o cs ∧ T.wts l ≤ Rows.uptoBulkAll (xs.map (·.1))
 | [], [], o, xs, _, hl, _ => ⟨[], by simp only [RepF], by simp [T.wts]⟩
 | [], t :: ts, o, xs, h, _, _ => by simp [laidF] at h
 | f :: fs, [], o, xs, h, _, _ => by simp [laidF] at h
 | f :: fs, t :: ts, o, [], h, hl, _ => by cases hl
 | f :: fs, t :: ts, o, x :: xs, h, hl, hx => by
  simp only [laidF, Bool.and_eq_true, beq_iff_eq] at h
  obtain ⟨⟨⟨h1, h2⟩, h3⟩, h4⟩ := h
  have h0 := hx 0 f rfl
  rw [h1, h2, cells_ok t h3] at h0
  obtain ⟨u, g1, g2⟩ := hr t _ x h3 h0
  obtain ⟨l, k1, k2⟩ := repF_of hr fs ts (o + t.size) xs h4 (by simpa using hl) (fun i f' hf => hx (i + 1) f' (by simpa using hf))
  refine ⟨u :: l, ?_, ?_⟩
  · simp only [RepF]; exact ⟨g1, k1⟩
  · simp only [T.wts, List.map_cons, Rows.uptoBulkAll]; omega
theorem ty_pos (e : Ty) : 0 < e.size := by
 cases e with
 | st s => cases s <;> decide
 | _ => exact Nat.one_pos
theorem int_wf {n : Int} (h : (Lit.int .i64 n).wf = true) : isInt n := by
 simpa [Lit.wf, IntKind.min, IntKind.max, IntKind.signed, IntKind.bits, isInt] using h
theorem rep_of {H : Type} {enc : TypeId × Value → H} {w : World} {base : Nat} {spare : Nat → Bool} {held : Bool} : ∀ (fuel : Nat) (f : Ty) (cs : List Value) (x : DataW H × List MemPlace), okTy f = true →
 DataW.trod enc Tryz.prog w base spare held fuel (tyId f) cs = some x → ∃ t, Rep w (fun _ => True) t f cs ∧ t.wt ≤ Rows.uptoBulk x.1 := by
 intro fuel
 induction fuel with
 | zero => intro f cs x _ h; simp [DataW.trod] at h
 | succ n ih =>
  intro f cs x hf h
  cases f with
  | int =>
   obtain ⟨m, rfl, rfl, hw⟩ := DataW.trod_int Tryz.underlying3 h
   exact ⟨.int m, by simp only [Rep]; exact ⟨trivial, int_wf hw⟩, by simp [T.wt, Rows.uptoBulk]⟩
  | bool =>
   obtain ⟨b, rfl, rfl⟩ := DataW.trod_bool Tryz.underlying4 h
   exact ⟨.bool b, by simp only [Rep], by simp [T.wt, Rows.uptoBulk]⟩
  | str =>
   obtain ⟨s, rfl, rfl, hs⟩ := DataW.trod_string Tryz.underlying9 h
   refine ⟨.str s, by simp only [Rep]; exact ⟨trivial, hs⟩, ?_⟩
   have : s.data.size = s.size := rfl
   simp [T.wt, Rows.uptoBulk, this]
  | ptr e =>
   obtain rfl := ptr_ok e hf
   rcases DataW.trod_pointer Tryz.underlying46 h with ⟨rfl, rfl⟩ | ⟨a, cs', y, m, hm, rfl, rfl, hcs, hy⟩
   · exact ⟨.nil, by simp only [Rep], by simp [T.wt, Rows.uptoBulk]⟩
   · obtain rfl : n = m := by omega
     have hc10 : Tryz.prog.cellsOf 36 = (Ty.st .sheet).size := cells_ok (.st .sheet) rfl
     rw [hc10] at hcs
     obtain ⟨_, hdl, hd0⟩ := World.cells?_some hcs
     have hv0 : w.cell? a = cs'[0]? := hd0 0 (by decide)
     rw [List.getElem?_eq_getElem (by rw [hdl]; decide)] at hv0
     obtain ⟨hspot, hbl⟩ := cell_spot hv0
     obtain ⟨b, o, sp⟩ := a
     simp only at hspot hbl
     subst hspot
     obtain ⟨t, r1, r2⟩ := ih (.st .sheet) cs' y rfl hy
     obtain ⟨c1, c2⟩ := cells_at hcs
     refine ⟨.ptr t, ?_, ?_⟩
     · simp only [Rep]; exact ⟨b, o, cs', rfl, trivial, hbl, c2, c1, r1⟩
     · simp only [T.wt, Rows.uptoBulk]; omega
  | list e =>
   obtain ⟨he, hu⟩ := list_ok e hf
   rcases DataW.trod_slice hu h with ⟨rfl, rfl⟩ | ⟨a, len, cap, elems, rest, m, hm, rfl, rfl, hb, hl, hc, hlen, hel, _, _⟩
   · exact ⟨.list [], by simp only [Rep]; exact .inl ⟨⟨_, _, rfl⟩, trivial⟩, by simp [T.wt, T.wts, Rows.uptoBulk]⟩
   · obtain rfl : n = m := by omega
     by_cases h0 : len = 0
     · subst h0
       exact ⟨.list [], by simp only [Rep]; exact .inl ⟨⟨_, _, rfl⟩, trivial⟩, by simp [T.wt, T.wts, Rows.uptoBulk]⟩
     · have hsz := ty_pos e
       have hcell : ∀ i, i < len → ∃ ds y, w.cells? base (a.add (i * e.size)) e.size = some ds ∧ DataW.trod enc Tryz.prog w base spare held n (tyId e) ds = some y ∧ elems[i]? = some y := by
        intro i hi
        have h1 := hel i hi
        rw [cells_ok e he] at h1
        have h2 : elems[i]? = some (elems[i]'(by omega)) := List.getElem?_eq_getElem (by omega)
        rw [h2, Option.bind_eq_some_iff] at h1
        obtain ⟨ds, g1, g2⟩ := h1
        exact ⟨ds, _, g1, g2, h2⟩
       obtain ⟨ds0, y0, hc0, _, _⟩ := hcell 0 (by omega)
       obtain ⟨_, hdl, hd0⟩ := World.cells?_some hc0
       have hv0 : w.cell? a = ds0[0]? := by
        have := hd0 0 hsz
        rwa [show (a.add (0 * e.size)).add 0 = a from by rw [Nat.zero_mul]; rfl] at this
       rw [List.getElem?_eq_getElem (by omega)] at hv0
       obtain ⟨hspot, hbl⟩ := cell_spot hv0
       obtain ⟨b, o, sp⟩ := a
       simp only at hspot hbl
       subst hspot
       obtain ⟨l, k1, k2, k3⟩ := repL_of (w := w) (S := fun _ => True) (e := e) (b := b) elems o (fun i x hx => by
        have hi := (List.getElem?_eq_some_iff.1 hx).1
        obtain ⟨ds, y, g1, g2, g3⟩ := hcell i (by omega)
        rw [hx] at g3
        cases g3
        obtain ⟨t, r1, r2⟩ := ih e ds x he g2
        obtain ⟨c1, c2⟩ := cells_at' g1
        exact ⟨ds, t, c2, c1, r1, r2⟩)
       refine ⟨.list l, ?_, ?_⟩
       · simp only [Rep]
         exact .inr ⟨b, o, cap, by rw [k1, hlen], trivial, hbl, by omega, hc, k2⟩
       · simp only [T.wt, Rows.uptoBulk]; omega
  | st s =>
   obtain ⟨fs, hu, hlaid, hsz⟩ := sn_struct s
   obtain ⟨xs, m, hm, rfl, hcl, hxl, hx⟩ := DataW.trod_struct hu h
   obtain rfl : n = m := by omega
   obtain ⟨l, k1, k2⟩ := repF_of (w := w) (S := fun _ => True) (cs := cs) (r := DataW.trod enc Tryz.prog w base spare held n) (fun f ds x hf hx => ih f ds x hf hx) fs.toList s.fields 0 xs hlaid (by simpa using hxl)
    (fun i f hf => hx i f (by simpa using hf))
   refine ⟨.agg s l, ?_, ?_⟩
   · simp only [Rep]; exact ⟨trivial, by rw [hcl, ← hsz], k1⟩
   · simp only [T.wt, Rows.uptoBulk]; omega
end Go.Sx
namespace Go.Sx
open Go.Proofs Go.Proofs.YtdldhfocpandoaaGreat Go.ChangeShapes Go.WideShapes Go.ChangeAt Go.RowKit
def bitsTys : List Ty := [.str, .list (.st .template), .list (.st .dfn), .list (.st .global), .list (.st .key), .list (.st .accum), .list (.st .mode), .list (.st .output), .list (.st .charMap)]
theorem list_cell {w : World} {S : Nat → Prop} {t : T} {e : Ty} {v : Value} (h : Rep w S t (.list e) [v]) : ∃ g n c, v = .slice g n c := by
 obtain ⟨l, rfl⟩ := h.is_list
 obtain ⟨g, cap, hv, _⟩ := list_val h
 exact ⟨g, l.length, cap, hv⟩
theorem cells43 : Tryz.prog.cellsOf 43 = 9 := by kernel_rfl
theorem bits_of {w : World} {l : List T} {cs : List Value} (hl : cs.length = 9) (h : RepF w (fun _ => True) l bitsTys 0 cs) : ∃ t, BitsOf w t cs ∧ t.wt = T.wts l + 2 := by
 obtain ⟨t0, l, rfl, r0, h⟩ := h.cons_inv
 obtain ⟨t1, l, rfl, r1, h⟩ := h.cons_inv
 obtain ⟨t2, l, rfl, r2, h⟩ := h.cons_inv
 obtain ⟨t3, l, rfl, r3, h⟩ := h.cons_inv
 obtain ⟨t4, l, rfl, r4, h⟩ := h.cons_inv
 obtain ⟨t5, l, rfl, r5, h⟩ := h.cons_inv
 obtain ⟨t6, l, rfl, r6, h⟩ := h.cons_inv
 obtain ⟨t7, l, rfl, r7, h⟩ := h.cons_inv
 obtain ⟨t8, l, rfl, r8, h⟩ := h.cons_inv
 obtain rfl := h.nil_inv
 match cs, hl with
 | [a0, a1, a2, a3, a4, a5, a6, a7, a8], _ =>
  simp only [Nat.zero_add, Nat.reduceAdd, Ty.size, List.drop_succ_cons, List.drop_zero, List.take_succ_cons, List.take_zero] at r0 r1 r2 r3 r4 r5 r6 r7 r8
  obtain ⟨s, _, hs, _⟩ := id r0.str_inv
  obtain ⟨g1, n1, c1, rfl⟩ := list_cell r1
  obtain ⟨g2, n2, c2, rfl⟩ := list_cell r2
  obtain ⟨g3, n3, c3, rfl⟩ := list_cell r3
  obtain ⟨g4, n4, c4, rfl⟩ := list_cell r4
  obtain ⟨g5, n5, c5, rfl⟩ := list_cell r5
  obtain ⟨g6, n6, c6, rfl⟩ := list_cell r6
  obtain ⟨g7, n7, c7, rfl⟩ := list_cell r7
  obtain ⟨g8, n8, c8, rfl⟩ := list_cell r8
  obtain rfl := List.head_eq_of_cons_eq hs
  refine ⟨.agg .sheet [t0, .list [], t1, t2, t3, t4, t5, t6, t7, t8], ⟨.mk, ?_⟩, ?_⟩
  · have hn : Rep w (fun _ => True) (.list []) (.list (.st .use)) [.slice none 0 0] := by simp only [Rep, nilSl0, true_and, true_or]
    simp only [sheetB]
    unfold Rep
    refine ⟨rfl, rfl, ?_⟩
    simp only [SN.fields, RepF, Ty.size, Nat.reduceAdd, List.drop_succ_cons, List.drop_zero, List.take_succ_cons, List.take_zero]
    exact ⟨r0, hn, r1, r2, r3, r4, r5, r6, r7, r8, trivial⟩
  · simp only [T.wt, T.wts]; omega
set_option maxRecDepth 100000 in
theorem bits_arg {H : Type} {enc : TypeId × Value → H} {W : World} {base : Nat} {v : Value} {d : DataW H} {ps : List MemPlace}
 (hv : Value.okWide Tryz.prog W .any base 43 v) (hd : DataW.Trod enc Tryz.prog W 0 (fun _ => true) true 43 v d ps) : ∃ bs t, v = .agg bs.toArray ∧ BitsOf W t bs ∧ t.wt ≤ Rows.uptoBulk d + 1 := by
 obtain ⟨n, hn⟩ := hd
 unfold Value.okWide at hv
 rw [Tryz.underlying43] at hv
 obtain ⟨cs, rfl, _, _⟩ := hv
 obtain ⟨fs, hfs, hlaid⟩ : ∃ fs, Tryz.prog.underlying 43 = some (.struct fs) ∧ laidF fs.toList bitsTys 0 = true := ⟨_, Tryz.underlying43, rfl⟩
 obtain ⟨xs, m, hm, hx, hcl, hxl, hg⟩ := DataW.trod_struct hfs hn
 obtain ⟨rfl, _⟩ := Prod.mk.inj hx
 rw [cells43] at hcl
 obtain ⟨l, k1, k2⟩ := repF_of (w := W) (S := fun _ => True) (cs := cs.toList) (r := DataW.trod enc Tryz.prog W 0 (fun _ => true) true m) (fun f ds x hf hx => rep_of m f ds x hf hx) fs.toList bitsTys 0 xs hlaid (by simpa using hxl)
  (fun i f hf => hg i f (by simpa using hf))
 obtain ⟨t, b1, b2⟩ := bits_of hcl k1
 refine ⟨cs.toList, t, by simp, b1, ?_⟩
 rw [b2]; simp only [Rows.uptoBulk]; omega
end Go.Sx
