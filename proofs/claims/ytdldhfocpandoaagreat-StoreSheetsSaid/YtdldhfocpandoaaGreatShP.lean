/- StoreSheets holds: for every list of events the program answers true: a stylesheet that the events give, where they are looked at, is stored as it was. No condition. -/
import Derived.Test.YtdldhfocpandoaaGreatRows
import Derived.Test.YtdldhfocpandoaaGreatStL
import Derived.Test.YtdldhfocpandoaaGreatStJ
import Derived.Test.YtdldhfocpandoaaGreatEvA
import Derived.WalkKit
namespace Go.Proofs.YtdldhfocpandoaaGreat.storeSheets
open Go.ChangeShapes Go.WideShapes Go.ChangeAt Go.RowKit Go.Sx
theorem own : ownKnob Tryz.prog.godebug = none := by kernel_rfl
theorem k_wf : Rows.storeSheetsRow.wf (OpenSpec.ofChange Rows.storeSheetsSpec) = true := by kernel_rfl
theorem k_params : Tryz.f10.params.all (Tryz.prog.readableRec ·) = true := by kernel_rfl
theorem k_sized : Tryz.f10.params.toList.all (fun t => Tryz.prog.readableRec t && decide (t < Tryz.prog.types.size)) = true := by kernel_rfl
theorem k_tie : namedTie Tryz.prog Rows.storeSheetsRow.named Rows.storeSheetsSpec.vars = true := by kernel_rfl
theorem k_place : (Rows.storeSheetsRow.inPlace == Tryz.prog.inPlace 10) = true := by kernel_rfl
theorem k_unf : (Rows.storeSheetsRow.unfollowed == Tryz.prog.unfollowed 10) = true := by kernel_rfl
theorem k_rec : (Rows.storeSheetsRow.recurses == Tryz.prog.recurses 10) = true := by kernel_rfl
theorem k_named : (Rows.storeSheetsRow.named == Tryz.prog.varsNamed 10) = true := by kernel_rfl
theorem k_maps : (Rows.storeSheetsRow.maps == (Tryz.f10.params.toList ++ Rows.storeSheetsSpec.plain.varTypes Tryz.prog).any (Tryz.prog.mapsRec ·)) = true := by kernel_rfl
theorem k_ifaces : (Rows.storeSheetsRow.ifaces == (Tryz.f10.params.toList ++ Rows.storeSheetsSpec.plain.varTypes Tryz.prog).any (Tryz.prog.ifacesRec ·)) = true := by kernel_rfl
theorem k_mapsOut : (Rows.storeSheetsRow.mapsOut == Tryz.prog.mapsAmong Tryz.f10.resultTypes.toList) = true := by kernel_rfl
theorem k_loops : (Rows.storeSheetsRow.loops == (Tryz.f10.params.toList ++ Rows.storeSheetsSpec.plain.varTypes Tryz.prog).any (Tryz.prog.loopsFrom ·)) = true := by kernel_rfl
theorem k_wide : (Rows.storeSheetsRow.wideKeys == (Tryz.f10.params.toList ++ Rows.storeSheetsSpec.plain.varTypes Tryz.prog ++ Tryz.f10.resultTypes.toList).any (Tryz.prog.wideKeysFrom ·)) = true := by kernel_rfl
theorem k_vars : Rows.storeSheetsSpec.vars.all (Tryz.prog.varReadable ·) = true := by kernel_rfl
theorem k_res : Tryz.f10.resultTypes.all (fun t => Tryz.prog.readableRec t && decide (t < Tryz.prog.types.size)) = true := by kernel_rfl
theorem k_ifacesOut : (Rows.storeSheetsRow.ifacesOut == Tryz.f10.resultTypes.toList.any (Tryz.prog.ifacesRec ·)) = true := by kernel_rfl
theorem k_loopsOut : (Rows.storeSheetsRow.loopsOut == Tryz.f10.resultTypes.toList.any (Tryz.prog.loopsFrom ·)) = true := by kernel_rfl
theorem k_keys : (Rows.storeSheetsRow.plainKeys == Tryz.prog.plainKeys) = true := by rw [Amd]; rfl
theorem k_lifts : (Rows.storeSheetsRow.lifted == Tryz.prog.liftsFinal) = true := by rw [Amf]; rfl
theorem k_make : (Tryz.prog.make == some Rows.storeSheetsRow.make) = true := by rw [Amg]; rfl
theorem k_kinds : (Rows.storeSheetsRow.kinds == (if Rows.storeSheetsRow.domain.isEmpty then [] else Tryz.f10.params.toList.map fun t => match Tryz.prog.underlying t with | some (.int k) => some k | _ => none)) = true := by kernel_rfl
theorem k_pinned : (Rows.storeSheetsRow.pinned == Rows.storeSheetsRow.pinnedBy) = true := by kernel_rfl
theorem k_veiled : (Rows.storeSheetsRow.veiled == (Tryz.f10.params.toList ++ Rows.storeSheetsSpec.plain.varTypes Tryz.prog ++ Tryz.f10.resultTypes.toList).any (Tryz.prog.veiledRec ·)) = true := by kernel_rfl
theorem k_fits : Rows.storeSheetsRow.veiledFits Tryz.prog Tryz.f10.params.toList (Tryz.f10.params.toList ++ Rows.storeSheetsSpec.plain.varTypes Tryz.prog ++ Tryz.f10.resultTypes.toList) = true := by kernel_rfl
theorem k_stops : (Rows.storeSheetsRow.stops == []) = true := rfl
theorem k_knobs : (Rows.storeSheetsRow.knobs == []) = true := rfl
theorem k_short : Rows.storeSheetsRow.shortTexts.isNone = true := rfl
set_option maxRecDepth 100000 in
theorem closed : joinedFacts Tryz.prog 10 Tryz.f10 Rows.storeSheetsSpec Rows.storeSheetsRow = true := by
 unfold joinedFacts
 simp only [Aq]
 exact ⟨⟨⟨⟨⟨⟨⟨⟨⟨⟨⟨⟨⟨⟨⟨⟨⟨⟨⟨⟨⟨⟨⟨⟨⟨⟨⟨⟨⟨⟨⟨k_wf, YH⟩, Amh⟩, k_params⟩, k_tie⟩, k_stops⟩, Ami⟩, k_knobs⟩, Ame⟩, k_place⟩, k_unf⟩, k_rec⟩, k_named⟩, k_maps⟩, k_ifaces⟩, k_mapsOut⟩, k_loops⟩, k_wide⟩, k_vars⟩, k_res⟩, k_ifacesOut⟩, k_loopsOut⟩, k_keys⟩, k_short⟩, Amc⟩, Amb⟩, k_lifts⟩, k_make⟩, k_kinds⟩, k_pinned⟩, k_veiled⟩, k_fits⟩
theorem params_ok : ∀ t ∈ Tryz.f10.params.toList, Tryz.prog.readableRec t = true ∧ t < Tryz.prog.types.size := by
 intro t ht
 have := Bg.1 k_sized t ht
 simp only [Aq, decide_eq_true_eq] at this
 exact this
theorem fn_args {H : Type} {enc : TypeId × Value → H} {W : World} {args : Array Value} {ds : List (DataW H)} {p : List MemPlace} (hA : DataW.TrodAll enc Tryz.prog W 0 (fun _ => true) true Tryz.f10.params.toList args.toList ds p) :
 Rows.storeSheetsSpec.fn H ds = { results := [.lit (.bool true)], args := ds } := by
 obtain ⟨_, _, _, _, _, _, _, rfl, _, _, r0⟩ := trodAll_cons hA
 obtain ⟨_, rfl, _⟩ := trodAll_nil r0
 rfl
set_option maxRecDepth 100000 in
theorem walk (W : World) (H : Type) (enc : TypeId × Value → H) (base : Nat) (args : Array Value) (ds : List (DataW H)) (p : List MemPlace)
 (hval : ∀ (j : Nat) t v, Tryz.f10.params[j]? = some t → args[j]? = some v → Value.okWide Tryz.prog W .any base t v)
 (hA : DataW.TrodAll enc Tryz.prog W 0 (fun _ => true) true Tryz.f10.params.toList args.toList ds p) :
 Calls Tryz.prog 10 args W (fun e W' => e = .returned (.bool true) ∧ Fr (fun _ => False) W (fun _ => False) W') := by
 rw [Tryz.params10] at hA hval
 obtain ⟨v0, vs0, d0, ds0, p0, q0, hargs, rfl, rfl, h0, r0⟩ := trodAll_cons hA
 obtain ⟨rfl, rfl, rfl⟩ := trodAll_nil r0
 obtain rfl : args = #[v0] := by cases args; simp_all
 obtain ⟨L, hB⟩ := Go.Ck.evs_arg (okWide_slice Tryz.underlying78 (hval 0 78 v0 rfl rfl)) h0
 refine (Go.Sx.c10 (w := W) hB).mono ?_
 intro e w' h
 cases e with
 | returned v => obtain ⟨rfl, f⟩ := h; exact ⟨rfl, f⟩
 | panicked ch => exact h.elim
 | outgrown => exact h.elim
set_option maxRecDepth 100000 in
theorem lifted (os : Os) (started : os.Started) (H : Type) (enc : TypeId × Value → H) :
 ReturnsInHanded {} Tryz.checked os 10 .any (Rows.storeSheetsSpec.pre6 enc Tryz.prog Tryz.f10 Rows.storeSheetsRow.domain false) (Rows.storeSheetsSpec.post enc Tryz.prog Tryz.f10 false true false false) := by
 refine returnsInHanded_of_change (C := Tryz.checked) own started (by kernel_rfl) Tryz.func10
  (ChangeSpec.witness6 (enc := enc) (C := Tryz.checked) false ⟨#[], #[.slice none 0 0], []⟩ 8 (by kernel_rfl) (by kernel_rfl) (by kernel_rfl) (by kernel_rfl)) ?_
 intro W base args ds gs before hval hW _ _
 have hW' := hW
 obtain ⟨p, q, hA, hV, rfl, _, _⟩ := hW
 obtain ⟨rfl, rfl⟩ := trodVars_none hV
 simp only [FW] at hW'
 refine (walk W H enc base args ds p hval hA).mono fun e W' ⟨he, hg⟩ => ?_
 subst he
 refine ⟨_, rfl, ?_⟩
 rw [FW] at *
 exact Asn YH rfl (fn_args hA) rfl Tryz.underlying4 params_ok hW' hg
theorem f_named : Tryz.prog.funcNamed Rows.storeSheetsRow.func = some 10 := by kernel_rfl
theorem f_inst : Tryz.f10.isInstance Tryz.prog Rows.storeSheetsRow.origin Rows.storeSheetsRow.targs := B7 (by kernel_rfl)
theorem f_wrap : Tryz.f10.isWrapper Tryz.prog Rows.storeSheetsRow.wrapper Rows.storeSheetsRow.mainSum := by
 unfold Func.isWrapper; first | (rw [if_pos (by decide +kernel)]; kernel_rfl) | (rw [if_neg (by decide +kernel)]; exact ⟨rfl, rfl⟩)
theorem over : Rows.storeSheetsRow.holds Tryz.pinned (OpenSpec.ofChange Rows.storeSheetsSpec) :=
 OpenClaim.holds_of_wide 10 Tryz.f10 rfl rfl rfl rfl rfl rfl rfl ⟨rfl, rfl, rfl, rfl, rfl⟩ rfl rfl rfl rfl rfl f_named Tryz.func10 closed f_inst f_wrap
  (fun os started H enc _ => lifted os started H enc)
theorem proved : Rows.StoreSheetsSaid := over
end Go.Proofs.YtdldhfocpandoaaGreat.storeSheets
