/- StoreOne holds: for every slice of bytes the program answers true: bytes that are accepted are those of the stylesheet that is read. No condition. -/
import Derived.Test.YtdldhfocpandoaaGreatRows
import Derived.Test.YtdldhfocpandoaaGreatStL
import Derived.Test.YtdldhfocpandoaaGreatStJ
import Derived.Test.YtdldhfocpandoaaGreatStM
import Derived.WalkKit
namespace Go.Proofs.YtdldhfocpandoaaGreat.storeOne
open Go.ChangeShapes Go.WideShapes Go.ChangeAt Go.RowKit Go.Sx

theorem own : ownKnob Tryz.prog.godebug = none := by kernel_rfl

theorem k_wf : Rows.storeOneRow.wf (OpenSpec.ofChange Rows.storeOneSpec) = true := by kernel_rfl
theorem k_params : Tryz.f6.params.all (Tryz.prog.readableRec ·) = true := by kernel_rfl
theorem k_sized : Tryz.f6.params.toList.all (fun t => Tryz.prog.readableRec t && decide (t < Tryz.prog.types.size)) = true := by kernel_rfl
theorem k_tie : namedTie Tryz.prog Rows.storeOneRow.named Rows.storeOneSpec.vars = true := by kernel_rfl
theorem k_place : (Rows.storeOneRow.inPlace == Tryz.prog.inPlace 6) = true := by kernel_rfl
theorem k_unf : (Rows.storeOneRow.unfollowed == Tryz.prog.unfollowed 6) = true := by kernel_rfl
theorem k_rec : (Rows.storeOneRow.recurses == Tryz.prog.recurses 6) = true := by kernel_rfl
theorem k_named : (Rows.storeOneRow.named == Tryz.prog.varsNamed 6) = true := by kernel_rfl
theorem k_maps : (Rows.storeOneRow.maps == (Tryz.f6.params.toList ++ Rows.storeOneSpec.plain.varTypes Tryz.prog).any (Tryz.prog.mapsRec ·)) = true := by kernel_rfl
theorem k_ifaces : (Rows.storeOneRow.ifaces == (Tryz.f6.params.toList ++ Rows.storeOneSpec.plain.varTypes Tryz.prog).any (Tryz.prog.ifacesRec ·)) = true := by kernel_rfl
theorem k_mapsOut : (Rows.storeOneRow.mapsOut == Tryz.prog.mapsAmong Tryz.f6.resultTypes.toList) = true := by kernel_rfl
theorem k_loops : (Rows.storeOneRow.loops == (Tryz.f6.params.toList ++ Rows.storeOneSpec.plain.varTypes Tryz.prog).any (Tryz.prog.loopsFrom ·)) = true := by kernel_rfl
theorem k_wide : (Rows.storeOneRow.wideKeys == (Tryz.f6.params.toList ++ Rows.storeOneSpec.plain.varTypes Tryz.prog ++ Tryz.f6.resultTypes.toList).any (Tryz.prog.wideKeysFrom ·)) = true := by kernel_rfl
theorem k_vars : Rows.storeOneSpec.vars.all (Tryz.prog.varReadable ·) = true := by kernel_rfl
theorem k_res : Tryz.f6.resultTypes.all (fun t => Tryz.prog.readableRec t && decide (t < Tryz.prog.types.size)) = true := by kernel_rfl
theorem k_ifacesOut : (Rows.storeOneRow.ifacesOut == Tryz.f6.resultTypes.toList.any (Tryz.prog.ifacesRec ·)) = true := by kernel_rfl
theorem k_loopsOut : (Rows.storeOneRow.loopsOut == Tryz.f6.resultTypes.toList.any (Tryz.prog.loopsFrom ·)) = true := by kernel_rfl
theorem k_keys : (Rows.storeOneRow.plainKeys == Tryz.prog.plainKeys) = true := by rw [clo_keys]; rfl
theorem k_lifts : (Rows.storeOneRow.lifted == Tryz.prog.liftsFinal) = true := by rw [clo_lifts]; rfl
theorem k_make : (Tryz.prog.make == some Rows.storeOneRow.make) = true := by rw [clo_make]; rfl
theorem k_kinds : (Rows.storeOneRow.kinds == (if Rows.storeOneRow.domain.isEmpty then [] else Tryz.f6.params.toList.map fun t => match Tryz.prog.underlying t with | some (.int k) => some k | _ => none)) = true := by kernel_rfl
theorem k_pinned : (Rows.storeOneRow.pinned == Rows.storeOneRow.pinnedBy) = true := by kernel_rfl
theorem k_veiled : (Rows.storeOneRow.veiled == (Tryz.f6.params.toList ++ Rows.storeOneSpec.plain.varTypes Tryz.prog ++ Tryz.f6.resultTypes.toList).any (Tryz.prog.veiledRec ·)) = true := by kernel_rfl
theorem k_fits : Rows.storeOneRow.veiledFits Tryz.prog Tryz.f6.params.toList (Tryz.f6.params.toList ++ Rows.storeOneSpec.plain.varTypes Tryz.prog ++ Tryz.f6.resultTypes.toList) = true := by kernel_rfl
theorem k_stops : (Rows.storeOneRow.stops == []) = true := rfl
theorem k_knobs : (Rows.storeOneRow.knobs == []) = true := rfl
theorem k_short : Rows.storeOneRow.shortTexts.isNone = true := rfl

set_option maxRecDepth 100000 in
theorem closed : joinedFacts Tryz.prog 6 Tryz.f6 Rows.storeOneSpec Rows.storeOneRow = true := by
  unfold joinedFacts
  simp only [Bool.and_eq_true]
  exact ⟨⟨⟨⟨⟨⟨⟨⟨⟨⟨⟨⟨⟨⟨⟨⟨⟨⟨⟨⟨⟨⟨⟨⟨⟨⟨⟨⟨⟨⟨⟨k_wf, clo_laid⟩, clo_rowed⟩, k_params⟩, k_tie⟩, k_stops⟩, clo_stops⟩, k_knobs⟩, clo_knobs⟩, k_place⟩, k_unf⟩, k_rec⟩, k_named⟩, k_maps⟩, k_ifaces⟩, k_mapsOut⟩, k_loops⟩, k_wide⟩, k_vars⟩, k_res⟩, k_ifacesOut⟩, k_loopsOut⟩, k_keys⟩, k_short⟩, clo_heard⟩, clo_enter⟩, k_lifts⟩, k_make⟩, k_kinds⟩, k_pinned⟩, k_veiled⟩, k_fits⟩

theorem params_ok : ∀ t ∈ Tryz.f6.params.toList, Tryz.prog.readableRec t = true ∧ t < Tryz.prog.types.size := by
  intro t ht
  have := List.all_eq_true.1 k_sized t ht
  simp only [Bool.and_eq_true, decide_eq_true_eq] at this
  exact this

theorem fn_args {H : Type} {enc : TypeId × Value → H} {W : World} {args : Array Value} {ds : List (DataW H)} {p : List MemPlace} (hA : DataW.TrodAll enc Tryz.prog W 0 (fun _ => true) true Tryz.f6.params.toList args.toList ds p) :
    Rows.storeOneSpec.fn H ds = { results := [.lit (.bool true)], args := ds } := by
  obtain ⟨_, _, _, _, _, _, _, rfl, _, _, r0⟩ := trodAll_cons hA
  obtain ⟨_, rfl, _⟩ := trodAll_nil r0
  rfl

set_option maxRecDepth 100000 in
theorem walk (W : World) (H : Type) (enc : TypeId × Value → H) (base : Nat) (args : Array Value) (ds : List (DataW H)) (p : List MemPlace)
    (hval : ∀ (j : Nat) t v, Tryz.f6.params[j]? = some t → args[j]? = some v → Value.okWide Tryz.prog W .any base t v)
    (hA : DataW.TrodAll enc Tryz.prog W 0 (fun _ => true) true Tryz.f6.params.toList args.toList ds p) :
    Calls Tryz.prog 6 args W (fun e W' => e = .returned (.bool true) ∧ Fr (fun _ => False) W (fun _ => False) W') := by
  rw [Tryz.params6] at hA hval
  obtain ⟨v0, vs0, d0, ds0, p0, q0, hargs, rfl, rfl, h0, r0⟩ := trodAll_cons hA
  obtain ⟨rfl, rfl, rfl⟩ := trodAll_nil r0
  obtain rfl : args = #[v0] := by cases args; simp_all
  obtain ⟨bs, hB⟩ := bts_arg (hval 0 22 v0 rfl rfl) h0
  refine (c6 (w := W) hB).mono ?_
  intro e w' h
  cases e with
  | returned v => obtain ⟨rfl, f⟩ := h; exact ⟨rfl, f⟩
  | panicked ch => exact h.elim
  | outgrown => exact h.elim

set_option maxRecDepth 100000 in
theorem lifted (os : Os) (started : os.Started) (H : Type) (enc : TypeId × Value → H) :
    ReturnsInHanded {} Tryz.checked os 6 .any (Rows.storeOneSpec.pre6 enc Tryz.prog Tryz.f6 Rows.storeOneRow.domain false) (Rows.storeOneSpec.post enc Tryz.prog Tryz.f6 false true false false) := by
  refine returnsInHanded_of_change (C := Tryz.checked) own started (by kernel_rfl) Tryz.func6
    (ChangeSpec.witness6 (enc := enc) (C := Tryz.checked) false ⟨#[], #[.slice none 0 0], []⟩ 8 (by kernel_rfl) (by kernel_rfl) (by kernel_rfl) (by kernel_rfl)) ?_
  intro W base args ds gs before hval hW _ _
  have hW' := hW
  obtain ⟨p, q, hA, hV, rfl, _, _⟩ := hW
  obtain ⟨rfl, rfl⟩ := trodVars_none hV
  simp only [List.append_nil] at hW'
  refine (walk W H enc base args ds p hval hA).mono fun e W' ⟨he, hg⟩ => ?_
  subst he
  refine ⟨_, rfl, ?_⟩
  rw [List.append_nil] at *
  exact post_true clo_laid rfl (fn_args hA) rfl Tryz.underlying4 params_ok hW' hg

theorem f_named : Tryz.prog.funcNamed Rows.storeOneRow.func = some 6 := by kernel_rfl
theorem f_inst : Tryz.f6.isInstance Tryz.prog Rows.storeOneRow.origin Rows.storeOneRow.targs := of_decide_eq_true (by kernel_rfl)
theorem f_wrap : Tryz.f6.isWrapper Tryz.prog Rows.storeOneRow.wrapper Rows.storeOneRow.mainSum := by
  unfold Func.isWrapper; first | (rw [if_pos (by decide +kernel)]; kernel_rfl) | (rw [if_neg (by decide +kernel)]; exact ⟨rfl, rfl⟩)

theorem over : Rows.storeOneRow.holds Tryz.pinned (OpenSpec.ofChange Rows.storeOneSpec) :=
  OpenClaim.holds_of_wide 6 Tryz.f6 rfl rfl rfl rfl rfl rfl rfl ⟨rfl, rfl, rfl, rfl, rfl⟩ rfl rfl rfl rfl rfl f_named Tryz.func6 closed f_inst f_wrap
    (fun os started H enc _ => lifted os started H enc)

theorem proved : Rows.StoreOneSaid := over
end Go.Proofs.YtdldhfocpandoaaGreat.storeOne
