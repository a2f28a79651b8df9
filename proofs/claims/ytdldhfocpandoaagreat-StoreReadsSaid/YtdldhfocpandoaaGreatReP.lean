/- StoreReads holds: for every slice of bytes the program answers true: the program's reader and the reference's say the same of the same bytes. No condition. -/
import Derived.Test.YtdldhfocpandoaaGreatRows
import Derived.Test.YtdldhfocpandoaaGreatStL
import Derived.Test.YtdldhfocpandoaaGreatStJ
import Derived.Test.YtdldhfocpandoaaGreatStZ
import Derived.WalkKit
namespace Go.Proofs.YtdldhfocpandoaaGreat.storeReads
open Go.ChangeShapes Go.WideShapes Go.ChangeAt Go.RowKit Go.Sx
theorem own : ownKnob Tryz.prog.godebug = none := by kernel_rfl
theorem k_wf : Rows.storeReadsRow.wf (OpenSpec.ofChange Rows.storeReadsSpec) = true := by kernel_rfl
theorem k_params : Tryz.f3.params.all (Tryz.prog.readableRec ·) = true := by kernel_rfl
theorem k_sized : Tryz.f3.params.toList.all (fun t => Tryz.prog.readableRec t && decide (t < Tryz.prog.types.size)) = true := by kernel_rfl
theorem k_tie : namedTie Tryz.prog Rows.storeReadsRow.named Rows.storeReadsSpec.vars = true := by kernel_rfl
theorem k_place : (Rows.storeReadsRow.inPlace == Tryz.prog.inPlace 3) = true := by kernel_rfl
theorem k_unf : (Rows.storeReadsRow.unfollowed == Tryz.prog.unfollowed 3) = true := by kernel_rfl
theorem k_rec : (Rows.storeReadsRow.recurses == Tryz.prog.recurses 3) = true := by kernel_rfl
theorem k_named : (Rows.storeReadsRow.named == Tryz.prog.varsNamed 3) = true := by kernel_rfl
theorem k_maps : (Rows.storeReadsRow.maps == (Tryz.f3.params.toList ++ Rows.storeReadsSpec.plain.varTypes Tryz.prog).any (Tryz.prog.mapsRec ·)) = true := by kernel_rfl
theorem k_ifaces : (Rows.storeReadsRow.ifaces == (Tryz.f3.params.toList ++ Rows.storeReadsSpec.plain.varTypes Tryz.prog).any (Tryz.prog.ifacesRec ·)) = true := by kernel_rfl
theorem k_mapsOut : (Rows.storeReadsRow.mapsOut == Tryz.prog.mapsAmong Tryz.f3.resultTypes.toList) = true := by kernel_rfl
theorem k_loops : (Rows.storeReadsRow.loops == (Tryz.f3.params.toList ++ Rows.storeReadsSpec.plain.varTypes Tryz.prog).any (Tryz.prog.loopsFrom ·)) = true := by kernel_rfl
theorem k_wide : (Rows.storeReadsRow.wideKeys == (Tryz.f3.params.toList ++ Rows.storeReadsSpec.plain.varTypes Tryz.prog ++ Tryz.f3.resultTypes.toList).any (Tryz.prog.wideKeysFrom ·)) = true := by kernel_rfl
theorem k_vars : Rows.storeReadsSpec.vars.all (Tryz.prog.varReadable ·) = true := by kernel_rfl
theorem k_res : Tryz.f3.resultTypes.all (fun t => Tryz.prog.readableRec t && decide (t < Tryz.prog.types.size)) = true := by kernel_rfl
theorem k_ifacesOut : (Rows.storeReadsRow.ifacesOut == Tryz.f3.resultTypes.toList.any (Tryz.prog.ifacesRec ·)) = true := by kernel_rfl
theorem k_loopsOut : (Rows.storeReadsRow.loopsOut == Tryz.f3.resultTypes.toList.any (Tryz.prog.loopsFrom ·)) = true := by kernel_rfl
theorem k_keys : (Rows.storeReadsRow.plainKeys == Tryz.prog.plainKeys) = true := by rw [Ol]; rfl
theorem k_lifts : (Rows.storeReadsRow.lifted == Tryz.prog.liftsFinal) = true := by rw [N2]; rfl
theorem k_make : (Tryz.prog.make == some Rows.storeReadsRow.make) = true := by rw [NV]; rfl
theorem k_kinds : (Rows.storeReadsRow.kinds == (if Rows.storeReadsRow.domain.isEmpty then [] else Tryz.f3.params.toList.map fun t => match Tryz.prog.underlying t with | some (.int k) => some k | _ => none)) = true := by kernel_rfl
theorem k_pinned : (Rows.storeReadsRow.pinned == Rows.storeReadsRow.pinnedBy) = true := by kernel_rfl
theorem k_veiled : (Rows.storeReadsRow.veiled == (Tryz.f3.params.toList ++ Rows.storeReadsSpec.plain.varTypes Tryz.prog ++ Tryz.f3.resultTypes.toList).any (Tryz.prog.veiledRec ·)) = true := by kernel_rfl
theorem k_fits : Rows.storeReadsRow.veiledFits Tryz.prog Tryz.f3.params.toList (Tryz.f3.params.toList ++ Rows.storeReadsSpec.plain.varTypes Tryz.prog ++ Tryz.f3.resultTypes.toList) = true := by kernel_rfl
theorem k_stops : (Rows.storeReadsRow.stops == []) = true := rfl
theorem k_knobs : (Rows.storeReadsRow.knobs == []) = true := rfl
theorem k_short : Rows.storeReadsRow.shortTexts.isNone = true := rfl
set_option maxRecDepth 100000 in
theorem closed : joinedFacts Tryz.prog 3 Tryz.f3 Rows.storeReadsSpec Rows.storeReadsRow = true := by
 unfold joinedFacts
 simp only [Bool.and_eq_true]
 exact ⟨⟨⟨⟨⟨⟨⟨⟨⟨⟨⟨⟨⟨⟨⟨⟨⟨⟨⟨⟨⟨⟨⟨⟨⟨⟨⟨⟨⟨⟨⟨k_wf, L_⟩, Nr⟩, k_params⟩, k_tie⟩, k_stops⟩, Nx⟩, k_knobs⟩, N4⟩, k_place⟩, k_unf⟩, k_rec⟩, k_named⟩, k_maps⟩, k_ifaces⟩, k_mapsOut⟩, k_loops⟩, k_wide⟩, k_vars⟩, k_res⟩, k_ifacesOut⟩, k_loopsOut⟩, k_keys⟩, k_short⟩, NB⟩, Ns⟩, k_lifts⟩, k_make⟩, k_kinds⟩, k_pinned⟩, k_veiled⟩, k_fits⟩
theorem params_ok : ∀ t ∈ Tryz.f3.params.toList, Tryz.prog.readableRec t = true ∧ t < Tryz.prog.types.size := by
 intro t ht
 have := List.all_eq_true.1 k_sized t ht
 simp only [Bool.and_eq_true, decide_eq_true_eq] at this
 exact this
theorem fn_args {H : Type} {enc : TypeId × Value → H} {W : World} {args : Array Value} {ds : List (DataW H)} {p : List MemPlace} (hA : DataW.TrodAll enc Tryz.prog W 0 (fun _ => true) true Tryz.f3.params.toList args.toList ds p) :
 Rows.storeReadsSpec.fn H ds = { results := [.lit (.bool true)], args := ds } := by
 obtain ⟨_, _, _, _, _, _, _, rfl, _, _, r0⟩ := trodAll_cons hA
 obtain ⟨_, rfl, _⟩ := trodAll_nil r0
 rfl
set_option maxRecDepth 100000 in
theorem walk (W : World) (H : Type) (enc : TypeId × Value → H) (base : Nat) (args : Array Value) (ds : List (DataW H)) (p : List MemPlace)
 (hval : ∀ (j : Nat) t v, Tryz.f3.params[j]? = some t → args[j]? = some v → Value.okWide Tryz.prog W .any base t v)
 (hA : DataW.TrodAll enc Tryz.prog W 0 (fun _ => true) true Tryz.f3.params.toList args.toList ds p) :
 Calls Tryz.prog 3 args W (fun e W' => e = .returned (.bool true) ∧ Fr (fun _ => False) W (fun _ => False) W') := by
 rw [Tryz.params3] at hA hval
 obtain ⟨v0, vs0, d0, ds0, p0, q0, hargs, rfl, rfl, h0, r0⟩ := trodAll_cons hA
 obtain ⟨rfl, rfl, rfl⟩ := trodAll_nil r0
 obtain rfl : args = #[v0] := by cases args; simp_all
 obtain ⟨bs, hB⟩ := OO (hval 0 22 v0 rfl rfl) h0
 refine (c3 (w := W) hB).mono ?_
 intro e w' h
 cases e with
 | returned v => obtain ⟨rfl, f⟩ := h; exact ⟨rfl, f⟩
 | panicked ch => exact h.elim
 | outgrown => exact h.elim
set_option maxRecDepth 100000 in
theorem lifted (os : Os) (started : os.Started) (H : Type) (enc : TypeId × Value → H) :
 ReturnsInHanded {} Tryz.checked os 3 .any (Rows.storeReadsSpec.pre6 enc Tryz.prog Tryz.f3 Rows.storeReadsRow.domain false) (Rows.storeReadsSpec.post enc Tryz.prog Tryz.f3 false true false false) := by
 refine returnsInHanded_of_change (C := Tryz.checked) own started (by kernel_rfl) Tryz.func3
  (ChangeSpec.witness6 (enc := enc) (C := Tryz.checked) false ⟨#[], #[.slice none 0 0], []⟩ 8 (by kernel_rfl) (by kernel_rfl) (by kernel_rfl) (by kernel_rfl)) ?_
 intro W base args ds gs before hval hW _ _
 have hW' := hW
 obtain ⟨p, q, hA, hV, rfl, _, _⟩ := hW
 obtain ⟨rfl, rfl⟩ := trodVars_none hV
 simp only [List.append_nil] at hW'
 refine (walk W H enc base args ds p hval hA).mono fun e W' ⟨he, hg⟩ => ?_
 subst he
 refine ⟨_, rfl, ?_⟩
 rw [List.append_nil] at *
 exact N3 L_ rfl (fn_args hA) rfl Tryz.underlying4 params_ok hW' hg
theorem f_named : Tryz.prog.funcNamed Rows.storeReadsRow.func = some 3 := by kernel_rfl
theorem f_inst : Tryz.f3.isInstance Tryz.prog Rows.storeReadsRow.origin Rows.storeReadsRow.targs := of_decide_eq_true (by kernel_rfl)
theorem f_wrap : Tryz.f3.isWrapper Tryz.prog Rows.storeReadsRow.wrapper Rows.storeReadsRow.mainSum := by
 unfold Func.isWrapper; first | (rw [if_pos (by decide +kernel)]; kernel_rfl) | (rw [if_neg (by decide +kernel)]; exact ⟨rfl, rfl⟩)
theorem IA : Rows.storeReadsRow.holds Tryz.pinned (OpenSpec.ofChange Rows.storeReadsSpec) :=
 OpenClaim.holds_of_wide 3 Tryz.f3 rfl rfl rfl rfl rfl rfl rfl ⟨rfl, rfl, rfl, rfl, rfl⟩ rfl rfl rfl rfl rfl f_named Tryz.func3 closed f_inst f_wrap
  (fun os started H enc _ => lifted os started H enc)
theorem proved : Rows.StoreReadsSaid := IA
end Go.Proofs.YtdldhfocpandoaaGreat.storeReads
