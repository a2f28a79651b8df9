import Derived.Test.YtdldhfocpandoaaGreatStJ
import Derived.Carry
import Derived.ChangeSlices
set_option maxHeartbeats 8000000
set_option maxRecDepth 8000
namespace Go.Sx
open Go.ChangeShapes Go.WideShapes Go.ChangeAt Go.RowKit
variable {P : Program} {H : Type} {enc : TypeId × Value → H}
theorem Fr.below {w w' : World} (f : Fr (fun _ => False) w (fun _ => False) w') : Below w.heap.size w w' := ⟨f.os, f.tape, f.output, f.size, fun k hk => f.blk k hk (fun h => h)⟩
theorem KL (hl : laidOutB P = true) {W W' : World} (f : Fr (fun _ => False) W (fun _ => False) W') : ∀ {ts : List TypeId} {vs : List Value} {ds : List (DataW H)} {ps : List MemPlace},
 (∀ t ∈ ts, P.readableRec t = true ∧ t < P.types.size) → DataW.TrodAll enc P W 0 (fun _ => true) true ts vs ds ps → (∀ x ∈ ps, x.block < W.heap.size) →
 ∀ sp : Nat → Bool, (∀ p ∈ ps, sp p.block = true) → DataW.TrodAll enc P W' 0 sp true ts vs ds ps
 | [], [], [], _, _, h, _, _, _ => h
 | [], [], _ :: _, _, _, h, _, _, _ => h.elim
 | [], _ :: _, _, _, _, h, _, _, _ => h.elim
 | _ :: _, [], _, _, _, h, _, _, _ => h.elim
 | _ :: _, _ :: _, [], _, _, h, _, _, _ => h.elim
 | t :: ts, v :: vs, d :: ds, ps, ht, ⟨p, q, h1, h2, e⟩, hlt, sp, hs =>
  ⟨p, q, WideElems.Trod_stays hl (ht t (by simp)).1 (ht t (by simp)).2 h1 (fun x hx => f.below.same (hlt x (by rw [e]; exact List.mem_append_left _ hx))) (fun x hx => hs x (by rw [e]; exact List.mem_append_left _ hx)),
   KL hl f (fun t h => ht t (by simp [h])) h2 (fun x hx => hlt x (by rw [e]; exact List.mem_append_right _ hx)) sp (fun x hx => hs x (by rw [e]; exact List.mem_append_right _ hx)), e⟩
theorem N3 {f : Func} {s : ChangeSpec} {again : Bool} {W W' : World} {args : Array Value} {ds : List (DataW H)} {before : List MemPlace} (hl : laidOutB P = true)
 (hv : s.vars = []) (hfn : s.fn H ds = { results := [.lit (.bool true)], args := ds }) (hres : f.resultTypes = #[4]) (h4 : P.underlying 4 = some .bool)
 (ht : ∀ t ∈ f.params.toList, P.readableRec t = true ∧ t < P.types.size)
 (hW : DataW.Whole enc P f.params.toList s.vars false W args.toList ds [] before) (g : Fr (fun _ => False) W (fun _ => False) W') :
 s.post enc P f false true false again W args (.bool true) W' := by
 have hW' := hW
 obtain ⟨p, q, hA, hV, hpq, hfz, hnd⟩ := hW
 rw [hv] at hV
 obtain ⟨_, rfl⟩ := trodVars_none hV
 rw [List.append_nil] at hpq
 subst hpq
 have hlt := fun p hp => hW'.lt p hp
 have hr : (Value.bool true).resultList f.resultTypes.size = [.bool true] := by rw [hres]; rfl
 refine K4 (pa := before) (pv := []) hW' (fun b sp hd => ?_) (fun sp hs => ?_) (fun sp _ => ?_) (by simp) (g.kept _) (fun a ha => g.frozen a ha) ?_
 · rw [List.append_nil, hfn, hres]
   exact trodAll_cons_mk (shut_bool h4 _) trodAll_mk0
 · rw [List.append_nil, hfn]
   exact KL hl g ht hA hlt sp hs
 · rw [hv, List.append_nil, hfn]; rfl
 · exact ok_one hres V (okWide_bool_mk h4 _)
end Go.Sx
namespace Go.Sx
open Go.Proofs Go.Proofs.Tryz Go.ChangeShapes Go.WideShapes Go.ChangeAt Go.RowKit
theorem MV {a : Addr} (h : a.spot = none) : a = ⟨a.block, a.off, none⟩ := by cases a; simp only at h; subst h; rfl
theorem Pr : prog.cellsOf 5 = 1 := by kernel_rfl
theorem NH {w : World} {b : Nat} {x : TypeId × Nat} (h : w.shape? b = some x) : b < w.heap.size := by
 unfold World.shape? at h
 split at h
 · rename_i hh; exact (Array.getElem?_eq_some_iff.1 hh).1
 · cases h
theorem OO {H : Type} {enc : TypeId × Value → H} {W : World} {base : Nat} {v : Value} {d : DataW H} {ps : List MemPlace}
 (hv : Value.okWide prog W .any base 22 v) (hd : DataW.Trod enc prog W 0 (fun _ => true) true 22 v d ps) : ∃ bs, Bts W v bs := by
 obtain ⟨n, hn⟩ := hd
 have hvc : ∀ g l c, v = .slice g l c → v.cells.toList = [.slice g l c] := fun g l c e => by subst e; rfl
 obtain ⟨g, l, c, rfl⟩ := okWide_slice underlying22 hv
 rcases open_ints underlying22 underlying5 Pr hn with ⟨h, _⟩ | ⟨a, len, cap, zs, h, _, hlc, hcm, hzl, _, hcell, hwf⟩
 · have h' : Value.slice g l c = .slice none 0 0 := by
    rw [hvc g l c rfl] at h; exact List.head_eq_of_cons_eq h
   rw [h']
   exact ⟨[], Nat.zero_le _, .inl ⟨rfl, rfl⟩⟩
 · have h' : Value.slice g l c = .slice (some a) len cap := by
    rw [hvc g l c rfl] at h; exact List.head_eq_of_cons_eq h
   rw [h'] at hv ⊢
   have hv' : len ≤ cap ∧ (cap : Int) ≤ IntKind.i64.max ∧ W.has prog .any base a 5 cap := by
    have := hv
    simp only [Value.okWide, underlying22, Cell.okWide, Cell.ok] at this
    exact this
   obtain ⟨_, _, _, hsp, row, cells, hsh, _⟩ := hv'
   rw [if_pos rfl] at hzl
   refine ⟨(zs.take len).map fun z => z.toNat.toUInt8, ?_, .inr ⟨a.block, a.off, cap, ?_, NH hsh, ?_, ?_⟩⟩
   · simp only [List.length_map, List.length_take]; omega
   · rw [MV hsp]; simp [hzl, Nat.min_eq_left hlc]
   · intro j u hj
     rw [List.map_map, List.getElem?_map, Option.map_eq_some_iff] at hj
     obtain ⟨z, hz, rfl⟩ := hj
     rw [List.getElem?_take] at hz
     split at hz
     · obtain ⟨hjl, hz'⟩ := List.getElem?_eq_some_iff.1 hz
       have hc := hcell j hjl
       rw [MV hsp, Addr.add_lit] at hc
       rw [hc]
       have hw := hwf z (List.mem_of_getElem? hz)
       have hw' : 0 ≤ z ∧ z ≤ 255 := by
        simp only [Lit.wf, Bool.and_eq_true, decide_eq_true_eq] at hw
        exact hw
       have hg : zs.getD j 0 = z := by rw [List.getD_eq_getElem?_getD, hz]; rfl
       rw [hg]
       show some _ = some (bv _)
       rw [Fo _ (by omega)]
       congr 2
       omega
     · cases hz
   · simp [hzl, Nat.min_eq_left hlc]; omega
end Go.Sx
