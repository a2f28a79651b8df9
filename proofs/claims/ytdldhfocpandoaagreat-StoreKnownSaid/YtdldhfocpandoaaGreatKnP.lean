/- StoreKnown holds: the program answers true on the examples of the chapter. -/
import Derived.Test.YtdldhfocpandoaaGreatRows
import Derived.Test.YtdldhfocpandoaaGreatKnPSt11
import Derived.WalkKit
namespace Go.Proofs.YtdldhfocpandoaaGreat.storeKnown
open Go.ChangeShapes Go.WideShapes Go.ChangeAt Go.RowKit Go.Sx

theorem own : ownKnob Tryz.prog.godebug = none := by kernel_rfl

theorem walk (w : World) :
    Calls Tryz.prog 9 #[] w fun e w' => e = .returned (.bool true) ∧ Fr (fun _ => False) w (fun _ => False) w' := by
  refine (c9 (w := w)).mono ?_
  intro e w' h
  cases e with
  | returned v => obtain ⟨rfl, f⟩ := h; exact ⟨rfl, f⟩
  | panicked ch => exact h.elim
  | outgrown => exact h.elim

set_option maxRecDepth 100000 in
theorem lifted (os : Os) (started : os.Started) (H : Type) (enc : TypeId × Value → H) :
    ReturnsInHanded {} Tryz.checked os 9 .any (Rows.storeKnownSpec.pre6 enc Tryz.prog Tryz.f9 Rows.storeKnownRow.domain false) (Rows.storeKnownSpec.post enc Tryz.prog Tryz.f9 false true false false) := by
  refine returnsInHanded_of_change (C := Tryz.checked) own started (by kernel_rfl) Tryz.func9
    (ChangeSpec.witness6 (enc := enc) (C := Tryz.checked) false ⟨#[], #[], []⟩ 8 (by kernel_rfl) (by kernel_rfl) (by kernel_rfl) (by kernel_rfl)) ?_
  intro W base args ds gs before hval0 hW hcnd _
  have hval : ∀ (j : Nat) t v, Tryz.f9.params[j]? = some t → args[j]? = some v → Value.okWide Tryz.prog W .any base t v := hval0
  have hW' := hW
  obtain ⟨p, q, hA0, hV, rfl, hfz, hnd⟩ := hW
  have hA : DataW.TrodAll enc Tryz.prog W 0 (fun _ => true) true Tryz.f9.params.toList args.toList ds p := hA0
  rw [Tryz.params9] at hA hval
  obtain ⟨rfl, rfl, rfl⟩ := trodAll_none hA
  obtain ⟨rfl, rfl⟩ := trodVars_none hV
  clear hA0 hval0
  simp only [List.append_nil] at hW'
  refine (walk W).mono fun e W' ⟨he, hg⟩ => ?_
  subst he
  exact ⟨_, rfl, post_of_fresh (pa := []) (pv := []) hW' (fun _ _ _ => (trodAll_cons_mk (shut_bool Tryz.underlying4 _) trodAll_mk0)) (fun sp _ => rfl) (fun _ _ => rfl) rfl
    (hg.kept _) (fun a ha => hg.frozen a ha) (ok_one (by kernel_rfl) rfl (okWide_bool_mk Tryz.underlying4 _))⟩

/-! The closed facts of the row, one by one. -/
theorem k_wf : Rows.storeKnownRow.wf (OpenSpec.ofChange Rows.storeKnownSpec) = true := by kernel_rfl
theorem k_params : Tryz.f9.params.all (Tryz.prog.readableRec ·) = true := by kernel_rfl
theorem k_tie : namedTie Tryz.prog Rows.storeKnownRow.named Rows.storeKnownSpec.vars = true := by kernel_rfl
theorem k_place : (Rows.storeKnownRow.inPlace == Tryz.prog.inPlace 9) = true := by kernel_rfl
theorem k_unf : (Rows.storeKnownRow.unfollowed == Tryz.prog.unfollowed 9) = true := by kernel_rfl
theorem k_rec : (Rows.storeKnownRow.recurses == Tryz.prog.recurses 9) = true := by kernel_rfl
theorem k_named : (Rows.storeKnownRow.named == Tryz.prog.varsNamed 9) = true := by kernel_rfl
theorem k_maps : (Rows.storeKnownRow.maps == (Tryz.f9.params.toList ++ Rows.storeKnownSpec.plain.varTypes Tryz.prog).any (Tryz.prog.mapsRec ·)) = true := by kernel_rfl
theorem k_ifaces : (Rows.storeKnownRow.ifaces == (Tryz.f9.params.toList ++ Rows.storeKnownSpec.plain.varTypes Tryz.prog).any (Tryz.prog.ifacesRec ·)) = true := by kernel_rfl
theorem k_mapsOut : (Rows.storeKnownRow.mapsOut == Tryz.prog.mapsAmong Tryz.f9.resultTypes.toList) = true := by kernel_rfl
theorem k_loops : (Rows.storeKnownRow.loops == (Tryz.f9.params.toList ++ Rows.storeKnownSpec.plain.varTypes Tryz.prog).any (Tryz.prog.loopsFrom ·)) = true := by kernel_rfl
theorem k_wide : (Rows.storeKnownRow.wideKeys == (Tryz.f9.params.toList ++ Rows.storeKnownSpec.plain.varTypes Tryz.prog ++ Tryz.f9.resultTypes.toList).any (Tryz.prog.wideKeysFrom ·)) = true := by kernel_rfl
theorem k_vars : Rows.storeKnownSpec.vars.all (Tryz.prog.varReadable ·) = true := by kernel_rfl
theorem k_res : Tryz.f9.resultTypes.all (fun t => Tryz.prog.readableRec t && decide (t < Tryz.prog.types.size)) = true := by kernel_rfl
theorem k_ifacesOut : (Rows.storeKnownRow.ifacesOut == Tryz.f9.resultTypes.toList.any (Tryz.prog.ifacesRec ·)) = true := by kernel_rfl
theorem k_loopsOut : (Rows.storeKnownRow.loopsOut == Tryz.f9.resultTypes.toList.any (Tryz.prog.loopsFrom ·)) = true := by kernel_rfl
theorem k_keys : (Rows.storeKnownRow.plainKeys == Tryz.prog.plainKeys) = true := by rw [clo_keys]; rfl
theorem k_lifts : (Rows.storeKnownRow.lifted == Tryz.prog.liftsFinal) = true := by rw [clo_lifts]; rfl
theorem k_make : (Tryz.prog.make == some Rows.storeKnownRow.make) = true := by rw [clo_make]; rfl
theorem k_kinds : (Rows.storeKnownRow.kinds == (if Rows.storeKnownRow.domain.isEmpty then [] else Tryz.f9.params.toList.map fun t => match Tryz.prog.underlying t with | some (.int k) => some k | _ => none)) = true := by kernel_rfl
theorem k_pinned : (Rows.storeKnownRow.pinned == Rows.storeKnownRow.pinnedBy) = true := by kernel_rfl
theorem k_veiled : (Rows.storeKnownRow.veiled == (Tryz.f9.params.toList ++ Rows.storeKnownSpec.plain.varTypes Tryz.prog ++ Tryz.f9.resultTypes.toList).any (Tryz.prog.veiledRec ·)) = true := by kernel_rfl
theorem k_fits : Rows.storeKnownRow.veiledFits Tryz.prog Tryz.f9.params.toList (Tryz.f9.params.toList ++ Rows.storeKnownSpec.plain.varTypes Tryz.prog ++ Tryz.f9.resultTypes.toList) = true := by kernel_rfl

theorem k_stops : (Rows.storeKnownRow.stops == []) = true := rfl
theorem k_knobs : (Rows.storeKnownRow.knobs == []) = true := rfl
theorem k_short : Rows.storeKnownRow.shortTexts.isNone = true := rfl

set_option maxRecDepth 100000 in
theorem closed : joinedFacts Tryz.prog 9 Tryz.f9 Rows.storeKnownSpec Rows.storeKnownRow = true := by
  unfold joinedFacts
  simp only [Bool.and_eq_true]
  exact ⟨⟨⟨⟨⟨⟨⟨⟨⟨⟨⟨⟨⟨⟨⟨⟨⟨⟨⟨⟨⟨⟨⟨⟨⟨⟨⟨⟨⟨⟨⟨k_wf, clo_laid⟩, clo_rowed⟩, k_params⟩, k_tie⟩, k_stops⟩, clo_stops⟩, k_knobs⟩, clo_knobs⟩, k_place⟩, k_unf⟩, k_rec⟩, k_named⟩, k_maps⟩, k_ifaces⟩, k_mapsOut⟩, k_loops⟩, k_wide⟩, k_vars⟩, k_res⟩, k_ifacesOut⟩, k_loopsOut⟩, k_keys⟩, k_short⟩, clo_heard⟩, clo_enter⟩, k_lifts⟩, k_make⟩, k_kinds⟩, k_pinned⟩, k_veiled⟩, k_fits⟩

theorem f_named : Tryz.prog.funcNamed Rows.storeKnownRow.func = some 9 := by kernel_rfl
theorem f_inst : Tryz.f9.isInstance Tryz.prog Rows.storeKnownRow.origin Rows.storeKnownRow.targs := of_decide_eq_true (by kernel_rfl)
theorem f_wrap : Tryz.f9.isWrapper Tryz.prog Rows.storeKnownRow.wrapper Rows.storeKnownRow.mainSum := by
  unfold Func.isWrapper; first | (rw [if_pos (by decide +kernel)]; kernel_rfl) | (rw [if_neg (by decide +kernel)]; exact ⟨rfl, rfl⟩)

theorem over : Rows.storeKnownRow.holds Tryz.pinned (OpenSpec.ofChange Rows.storeKnownSpec) :=
  OpenClaim.holds_of_wide 9 Tryz.f9 rfl rfl rfl rfl rfl rfl rfl ⟨rfl, rfl, rfl, rfl, rfl⟩ rfl rfl rfl rfl rfl f_named Tryz.func9 closed f_inst f_wrap
    (fun os started H enc _ => lifted os started H enc)

theorem proved : Rows.StoreKnownSaid := over
end Go.Proofs.YtdldhfocpandoaaGreat.storeKnown
