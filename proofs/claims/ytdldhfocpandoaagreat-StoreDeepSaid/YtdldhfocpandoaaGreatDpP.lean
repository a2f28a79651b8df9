/- StoreDeep holds: for each number and each kind, the program stores instructions or expressions that are nested at most 998 times, reads them again, and refuses deeper ones. No condition. -/
import Derived.Test.YtdldhfocpandoaaGreatRows
import Derived.Test.YtdldhfocpandoaaGreatStJ
import Derived.Test.YtdldhfocpandoaaGreatStK
import Derived.WalkKit
namespace Go.Proofs.YtdldhfocpandoaaGreat.storeDeep
open Go.ChangeShapes Go.WideShapes Go.ChangeAt Go.RowKit Go.Sx

theorem own : ownKnob Tryz.prog.godebug = none := by kernel_rfl

theorem walk (a0 : Int) (a1 : Bool) (w0 : (Lit.int .u16 a0).wf = true) (w : World) :
    Calls Tryz.prog 8 #[.int .u16 a0, .bool a1] w fun e w' => e = .returned (.bool true) ∧ Fr (fun _ => False) w (fun _ => False) w' := by
  have hw : 0 ≤ a0 ∧ a0 ≤ 65535 := by
    simp only [Lit.wf, Bool.and_eq_true, decide_eq_true_eq] at w0
    exact w0
  obtain ⟨n, rfl⟩ : ∃ n : Nat, a0 = (n : Int) := Int.eq_ofNat_of_zero_le hw.1
  refine (c8 (w := w) (n := n) (k := a1) (by have := hw.2; omega)).mono ?_
  intro e w' h
  cases e with
  | returned v => obtain ⟨rfl, f⟩ := h; exact ⟨rfl, f⟩
  | panicked ch => exact h.elim
  | outgrown => exact h.elim

set_option maxRecDepth 100000 in
theorem lifted (os : Os) (started : os.Started) (H : Type) (enc : TypeId × Value → H) :
    ReturnsInHanded {} Tryz.checked os 8 .any (Rows.storeDeepSpec.pre6 enc Tryz.prog Tryz.f8 Rows.storeDeepRow.domain false) (Rows.storeDeepSpec.post enc Tryz.prog Tryz.f8 false true false false) := by
  refine returnsInHanded_of_change (C := Tryz.checked) own started (by kernel_rfl) Tryz.func8
    (ChangeSpec.witness6 (enc := enc) (C := Tryz.checked) false ⟨#[], #[.int .u16 0, .bool false], []⟩ 8 (by kernel_rfl) (by kernel_rfl) (by kernel_rfl) (by kernel_rfl)) ?_
  intro W base args ds gs before hval0 hW hcnd _
  have hval : ∀ (j : Nat) t v, Tryz.f8.params[j]? = some t → args[j]? = some v → Value.okWide Tryz.prog W .any base t v := hval0
  have hW' := hW
  obtain ⟨p, q, hA0, hV, rfl, hfz, hnd⟩ := hW
  have hA : DataW.TrodAll enc Tryz.prog W 0 (fun _ => true) true Tryz.f8.params.toList args.toList ds p := hA0
  rw [Tryz.params8] at hA hval
  obtain ⟨v0, vs0, d0, ds0, p0, q0, hargs, rfl, rfl, h0, r0⟩ := trodAll_cons hA
  obtain ⟨v1, vs1, d1, ds1, p1, q1, rfl, rfl, rfl, h1, r1⟩ := trodAll_cons r0
  obtain ⟨rfl, rfl, rfl⟩ := trodAll_nil r1
  obtain rfl : args = #[v0, v1] := by cases args; simp_all
  obtain ⟨rfl, rfl⟩ := trodVars_none hV
  obtain ⟨a0, rfl, rfl, rfl, w0⟩ := open_int Tryz.underlying55 (hval 0 55 v0 rfl rfl) h0
  obtain ⟨a1, rfl, rfl, rfl⟩ := open_bool Tryz.underlying4 (hval 1 4 v1 rfl rfl) h1
  clear hA0 hval0
  simp only [List.append_nil] at hW'
  refine (walk a0 a1 w0 W).mono fun e W' ⟨he, hg⟩ => ?_
  subst he
  exact ⟨_, rfl, post_of_fresh (pa := []) (pv := []) hW' (fun _ _ _ => (trodAll_cons_mk (shut_bool Tryz.underlying4 _) trodAll_mk0)) (fun sp _ => (trodAll_cons_mk (shut_int Tryz.underlying55 w0) (trodAll_cons_mk (shut_bool Tryz.underlying4 _) trodAll_mk0))) (fun _ _ => rfl) rfl
    (hg.kept _) (fun a ha => hg.frozen a ha) (ok_one (by kernel_rfl) rfl (okWide_bool_mk Tryz.underlying4 _))⟩

theorem k_wf : Rows.storeDeepRow.wf (OpenSpec.ofChange Rows.storeDeepSpec) = true := by kernel_rfl
theorem k_params : Tryz.f8.params.all (Tryz.prog.readableRec ·) = true := by kernel_rfl
theorem k_tie : namedTie Tryz.prog Rows.storeDeepRow.named Rows.storeDeepSpec.vars = true := by kernel_rfl
theorem k_place : (Rows.storeDeepRow.inPlace == Tryz.prog.inPlace 8) = true := by kernel_rfl
theorem k_unf : (Rows.storeDeepRow.unfollowed == Tryz.prog.unfollowed 8) = true := by kernel_rfl
theorem k_rec : (Rows.storeDeepRow.recurses == Tryz.prog.recurses 8) = true := by kernel_rfl
theorem k_named : (Rows.storeDeepRow.named == Tryz.prog.varsNamed 8) = true := by kernel_rfl
theorem k_maps : (Rows.storeDeepRow.maps == (Tryz.f8.params.toList ++ Rows.storeDeepSpec.plain.varTypes Tryz.prog).any (Tryz.prog.mapsRec ·)) = true := by kernel_rfl
theorem k_ifaces : (Rows.storeDeepRow.ifaces == (Tryz.f8.params.toList ++ Rows.storeDeepSpec.plain.varTypes Tryz.prog).any (Tryz.prog.ifacesRec ·)) = true := by kernel_rfl
theorem k_mapsOut : (Rows.storeDeepRow.mapsOut == Tryz.prog.mapsAmong Tryz.f8.resultTypes.toList) = true := by kernel_rfl
theorem k_loops : (Rows.storeDeepRow.loops == (Tryz.f8.params.toList ++ Rows.storeDeepSpec.plain.varTypes Tryz.prog).any (Tryz.prog.loopsFrom ·)) = true := by kernel_rfl
theorem k_wide : (Rows.storeDeepRow.wideKeys == (Tryz.f8.params.toList ++ Rows.storeDeepSpec.plain.varTypes Tryz.prog ++ Tryz.f8.resultTypes.toList).any (Tryz.prog.wideKeysFrom ·)) = true := by kernel_rfl
theorem k_vars : Rows.storeDeepSpec.vars.all (Tryz.prog.varReadable ·) = true := by kernel_rfl
theorem k_res : Tryz.f8.resultTypes.all (fun t => Tryz.prog.readableRec t && decide (t < Tryz.prog.types.size)) = true := by kernel_rfl
theorem k_ifacesOut : (Rows.storeDeepRow.ifacesOut == Tryz.f8.resultTypes.toList.any (Tryz.prog.ifacesRec ·)) = true := by kernel_rfl
theorem k_loopsOut : (Rows.storeDeepRow.loopsOut == Tryz.f8.resultTypes.toList.any (Tryz.prog.loopsFrom ·)) = true := by kernel_rfl
theorem k_keys : (Rows.storeDeepRow.plainKeys == Tryz.prog.plainKeys) = true := by rw [clo_keys]; rfl
theorem k_lifts : (Rows.storeDeepRow.lifted == Tryz.prog.liftsFinal) = true := by rw [clo_lifts]; rfl
theorem k_make : (Tryz.prog.make == some Rows.storeDeepRow.make) = true := by rw [clo_make]; rfl
theorem k_kinds : (Rows.storeDeepRow.kinds == (if Rows.storeDeepRow.domain.isEmpty then [] else Tryz.f8.params.toList.map fun t => match Tryz.prog.underlying t with | some (.int k) => some k | _ => none)) = true := by kernel_rfl
theorem k_pinned : (Rows.storeDeepRow.pinned == Rows.storeDeepRow.pinnedBy) = true := by kernel_rfl
theorem k_veiled : (Rows.storeDeepRow.veiled == (Tryz.f8.params.toList ++ Rows.storeDeepSpec.plain.varTypes Tryz.prog ++ Tryz.f8.resultTypes.toList).any (Tryz.prog.veiledRec ·)) = true := by kernel_rfl
theorem k_fits : Rows.storeDeepRow.veiledFits Tryz.prog Tryz.f8.params.toList (Tryz.f8.params.toList ++ Rows.storeDeepSpec.plain.varTypes Tryz.prog ++ Tryz.f8.resultTypes.toList) = true := by kernel_rfl
theorem k_stops : (Rows.storeDeepRow.stops == []) = true := rfl
theorem k_knobs : (Rows.storeDeepRow.knobs == []) = true := rfl
theorem k_short : Rows.storeDeepRow.shortTexts.isNone = true := rfl

set_option maxRecDepth 100000 in
theorem closed : joinedFacts Tryz.prog 8 Tryz.f8 Rows.storeDeepSpec Rows.storeDeepRow = true := by
  unfold joinedFacts
  simp only [Bool.and_eq_true]
  exact ⟨⟨⟨⟨⟨⟨⟨⟨⟨⟨⟨⟨⟨⟨⟨⟨⟨⟨⟨⟨⟨⟨⟨⟨⟨⟨⟨⟨⟨⟨⟨k_wf, clo_laid⟩, clo_rowed⟩, k_params⟩, k_tie⟩, k_stops⟩, clo_stops⟩, k_knobs⟩, clo_knobs⟩, k_place⟩, k_unf⟩, k_rec⟩, k_named⟩, k_maps⟩, k_ifaces⟩, k_mapsOut⟩, k_loops⟩, k_wide⟩, k_vars⟩, k_res⟩, k_ifacesOut⟩, k_loopsOut⟩, k_keys⟩, k_short⟩, clo_heard⟩, clo_enter⟩, k_lifts⟩, k_make⟩, k_kinds⟩, k_pinned⟩, k_veiled⟩, k_fits⟩

theorem f_named : Tryz.prog.funcNamed Rows.storeDeepRow.func = some 8 := by kernel_rfl
theorem f_inst : Tryz.f8.isInstance Tryz.prog Rows.storeDeepRow.origin Rows.storeDeepRow.targs := of_decide_eq_true (by kernel_rfl)
theorem f_wrap : Tryz.f8.isWrapper Tryz.prog Rows.storeDeepRow.wrapper Rows.storeDeepRow.mainSum := by
  unfold Func.isWrapper; first | (rw [if_pos (by decide +kernel)]; kernel_rfl) | (rw [if_neg (by decide +kernel)]; exact ⟨rfl, rfl⟩)

theorem over : Rows.storeDeepRow.holds Tryz.pinned (OpenSpec.ofChange Rows.storeDeepSpec) :=
  OpenClaim.holds_of_wide 8 Tryz.f8 rfl rfl rfl rfl rfl rfl rfl ⟨rfl, rfl, rfl, rfl, rfl⟩ rfl rfl rfl rfl rfl f_named Tryz.func8 closed f_inst f_wrap
    (fun os started H enc _ => lifted os started H enc)

theorem proved : Rows.StoreDeepSaid := over
end Go.Proofs.YtdldhfocpandoaaGreat.storeDeep
