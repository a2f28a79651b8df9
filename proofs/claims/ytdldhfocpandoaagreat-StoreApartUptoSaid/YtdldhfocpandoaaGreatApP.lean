/- StoreApart holds where the arguments are together of bulk at most 1048576: the program answers true: two stylesheets have the same bytes exactly if they are equal. Condition: the bound of the second form. -/
import Derived.Test.YtdldhfocpandoaaGreatRows
import Derived.Test.YtdldhfocpandoaaGreatStL
import Derived.Test.YtdldhfocpandoaaGreatStJ
import Derived.Test.YtdldhfocpandoaaGreatStR
import Derived.Test.YtdldhfocpandoaaGreatStS
import Derived.WalkKit
import Derived.JoinedCond
namespace Go.Proofs.YtdldhfocpandoaaGreat.storeApart
open Go.ChangeShapes Go.WideShapes Go.ChangeAt Go.RowKit Go.Sx
theorem own : ownKnob Tryz.prog.godebug = none := by kernel_rfl
theorem k_wf : Rows.storeApartUptoRow.wf (OpenSpec.ofChange Rows.storeApartSpec) = true := by kernel_rfl
theorem k_params : Tryz.f7.params.all (Tryz.prog.readableRec ·) = true := by kernel_rfl
theorem k_sized : Tryz.f7.params.toList.all (fun t => Tryz.prog.readableRec t && decide (t < Tryz.prog.types.size)) = true := by kernel_rfl
theorem k_tie : namedTie Tryz.prog Rows.storeApartUptoRow.named Rows.storeApartSpec.vars = true := by kernel_rfl
theorem k_place : (Rows.storeApartUptoRow.inPlace == Tryz.prog.inPlace 7) = true := by kernel_rfl
theorem k_unf : (Rows.storeApartUptoRow.unfollowed == Tryz.prog.unfollowed 7) = true := by kernel_rfl
theorem k_rec : (Rows.storeApartUptoRow.recurses == Tryz.prog.recurses 7) = true := by kernel_rfl
theorem k_named : (Rows.storeApartUptoRow.named == Tryz.prog.varsNamed 7) = true := by kernel_rfl
theorem k_maps : (Rows.storeApartUptoRow.maps == (Tryz.f7.params.toList ++ Rows.storeApartSpec.plain.varTypes Tryz.prog).any (Tryz.prog.mapsRec ·)) = true := by kernel_rfl
theorem k_ifaces : (Rows.storeApartUptoRow.ifaces == (Tryz.f7.params.toList ++ Rows.storeApartSpec.plain.varTypes Tryz.prog).any (Tryz.prog.ifacesRec ·)) = true := by kernel_rfl
theorem k_mapsOut : (Rows.storeApartUptoRow.mapsOut == Tryz.prog.mapsAmong Tryz.f7.resultTypes.toList) = true := by kernel_rfl
theorem k_loops : (Rows.storeApartUptoRow.loops == (Tryz.f7.params.toList ++ Rows.storeApartSpec.plain.varTypes Tryz.prog).any (Tryz.prog.loopsFrom ·)) = true := by kernel_rfl
theorem k_wide : (Rows.storeApartUptoRow.wideKeys == (Tryz.f7.params.toList ++ Rows.storeApartSpec.plain.varTypes Tryz.prog ++ Tryz.f7.resultTypes.toList).any (Tryz.prog.wideKeysFrom ·)) = true := by kernel_rfl
theorem k_vars : Rows.storeApartSpec.vars.all (Tryz.prog.varReadable ·) = true := by kernel_rfl
theorem k_res : Tryz.f7.resultTypes.all (fun t => Tryz.prog.readableRec t && decide (t < Tryz.prog.types.size)) = true := by kernel_rfl
theorem k_ifacesOut : (Rows.storeApartUptoRow.ifacesOut == Tryz.f7.resultTypes.toList.any (Tryz.prog.ifacesRec ·)) = true := by kernel_rfl
theorem k_loopsOut : (Rows.storeApartUptoRow.loopsOut == Tryz.f7.resultTypes.toList.any (Tryz.prog.loopsFrom ·)) = true := by kernel_rfl
theorem k_keys : (Rows.storeApartUptoRow.plainKeys == Tryz.prog.plainKeys) = true := by rw [clo_keys]; rfl
theorem k_lifts : (Rows.storeApartUptoRow.lifted == Tryz.prog.liftsFinal) = true := by rw [clo_lifts]; rfl
theorem k_make : (Tryz.prog.make == some Rows.storeApartUptoRow.make) = true := by rw [clo_make]; rfl
theorem k_kinds : (Rows.storeApartUptoRow.kinds == (if Rows.storeApartUptoRow.domain.isEmpty then [] else Tryz.f7.params.toList.map fun t => match Tryz.prog.underlying t with | some (.int k) => some k | _ => none)) = true := by kernel_rfl
theorem k_pinned : (Rows.storeApartUptoRow.pinned == Rows.storeApartUptoRow.pinnedBy) = true := by kernel_rfl
theorem k_veiled : (Rows.storeApartUptoRow.veiled == (Tryz.f7.params.toList ++ Rows.storeApartSpec.plain.varTypes Tryz.prog ++ Tryz.f7.resultTypes.toList).any (Tryz.prog.veiledRec ·)) = true := by kernel_rfl
theorem k_fits : Rows.storeApartUptoRow.veiledFits Tryz.prog Tryz.f7.params.toList (Tryz.f7.params.toList ++ Rows.storeApartSpec.plain.varTypes Tryz.prog ++ Tryz.f7.resultTypes.toList) = true := by kernel_rfl
theorem k_stops : (Rows.storeApartUptoRow.stops == []) = true := rfl
theorem k_knobs : (Rows.storeApartUptoRow.knobs == []) = true := rfl
theorem k_short : Rows.storeApartUptoRow.shortTexts.isNone = true := rfl
set_option maxRecDepth 100000 in
theorem closed : joinedFacts Tryz.prog 7 Tryz.f7 Rows.storeApartSpec Rows.storeApartUptoRow = true := by
 unfold joinedFacts
 simp only [Bool.and_eq_true]
 exact ⟨⟨⟨⟨⟨⟨⟨⟨⟨⟨⟨⟨⟨⟨⟨⟨⟨⟨⟨⟨⟨⟨⟨⟨⟨⟨⟨⟨⟨⟨⟨k_wf, clo_laid⟩, clo_rowed⟩, k_params⟩, k_tie⟩, k_stops⟩, clo_stops⟩, k_knobs⟩, clo_knobs⟩, k_place⟩, k_unf⟩, k_rec⟩, k_named⟩, k_maps⟩, k_ifaces⟩, k_mapsOut⟩, k_loops⟩, k_wide⟩, k_vars⟩, k_res⟩, k_ifacesOut⟩, k_loopsOut⟩, k_keys⟩, k_short⟩, clo_heard⟩, clo_enter⟩, k_lifts⟩, k_make⟩, k_kinds⟩, k_pinned⟩, k_veiled⟩, k_fits⟩
theorem params_ok : ∀ t ∈ Tryz.f7.params.toList, Tryz.prog.readableRec t = true ∧ t < Tryz.prog.types.size := by
 intro t ht
 have := List.all_eq_true.1 k_sized t ht
 simp only [Bool.and_eq_true, decide_eq_true_eq] at this
 exact this
theorem fn_args {H : Type} {enc : TypeId × Value → H} {W : World} {args : Array Value} {ds : List (DataW H)} {p : List MemPlace} (hA : DataW.TrodAll enc Tryz.prog W 0 (fun _ => true) true Tryz.f7.params.toList args.toList ds p) :
 Rows.storeApartSpec.fn H ds = { results := [.lit (.bool true)], args := ds } := by
 obtain ⟨_, _, _, _, _, _, _, rfl, _, _, r0⟩ := trodAll_cons hA
 obtain ⟨_, _, _, _, _, _, _, rfl, _, _, r1⟩ := trodAll_cons r0
 obtain ⟨_, rfl, _⟩ := trodAll_nil r1
 rfl
set_option maxRecDepth 100000 in
theorem walk (W : World) (H : Type) (enc : TypeId × Value → H) (base : Nat) (args : Array Value) (ds : List (DataW H)) (p : List MemPlace)
 (hval : ∀ (j : Nat) t v, Tryz.f7.params[j]? = some t → args[j]? = some v → Value.okWide Tryz.prog W .any base t v)
 (hA : DataW.TrodAll enc Tryz.prog W 0 (fun _ => true) true Tryz.f7.params.toList args.toList ds p) (hk : Rows.uptoSmall H ds = true) :
 Calls Tryz.prog 7 args W (fun e W' => e = .returned (.bool true) ∧ Fr (fun _ => False) W (fun _ => False) W') := by
 rw [Tryz.params7] at hA hval
 obtain ⟨v0, vs0, d0, ds0, p0, q0, hargs, rfl, rfl, h0, r0⟩ := trodAll_cons hA
 obtain ⟨v1, vs1, d1, ds1, p1, q1, hargs1, rfl, rfl, h1, r1⟩ := trodAll_cons r0
 obtain ⟨rfl, rfl, rfl⟩ := trodAll_nil r1
 obtain rfl : args = #[v0, v1] := by cases args; simp_all
 obtain ⟨bs, t, rfl, hB, hwt⟩ := bits_arg (hval 0 43 v0 rfl rfl) h0
 obtain ⟨es, u, rfl, hE, hwu⟩ := bits_arg (hval 1 43 v1 rfl rfl) h1
 have hb := of_decide_eq_true hk
 simp only [Rows.uptoBulkAll] at hb
 refine (c7 (w := W) hB hE (by omega) (by omega)).mono ?_
 intro e w' h
 cases e with
 | returned v => obtain ⟨rfl, f⟩ := h; exact ⟨rfl, f⟩
 | panicked ch => exact h.elim
 | outgrown => exact h.elim
set_option maxRecDepth 100000 in
theorem contract (W : World) (H : Type) (enc : TypeId × Value → H) (base : Nat) (args : Array Value) (ds gs : List (DataW H)) (before : List MemPlace)
 (hval : ∀ (j : Nat) t v, Tryz.f7.params[j]? = some t → args[j]? = some v → Value.okWide Tryz.prog W .any base t v)
 (hW : DataW.Whole enc Tryz.prog Tryz.f7.params.toList Rows.storeApartSpec.vars false W args.toList ds gs before) (hk : Rows.uptoSmall H (ds ++ gs) = true) :
 Calls Tryz.prog 7 args W fun e W' => ∃ v, e = .returned v ∧ Rows.storeApartSpec.post enc Tryz.prog Tryz.f7 false true false false W args v W' := by
 have hW' := hW
 obtain ⟨p, q, hA, hV, rfl, _, _⟩ := hW
 obtain ⟨rfl, rfl⟩ := trodVars_none hV
 simp only [List.append_nil] at hW' hk
 refine (walk W H enc base args ds p hval hA hk).mono fun e W' ⟨he, hg⟩ => ?_
 subst he
 refine ⟨_, rfl, ?_⟩
 exact post_true clo_laid rfl (fn_args hA) rfl Tryz.underlying4 params_ok hW' hg
theorem wit_in : Tryz.prog.inits.idxOf? 7 = none := by kernel_rfl
set_option maxRecDepth 100000 in
theorem lifted (os : Os) (started : os.Started) (H : Type) (enc : TypeId × Value → H) (F : Stop.Interp) :
 ReturnsInHanded {} Tryz.checked os 7 .any ((Rows.OpenSpec.upto Rows.storeApartSpec).pre6 enc Tryz.prog Tryz.f7 Rows.storeApartUptoRow.domain false) (((Rows.OpenSpec.upto Rows.storeApartSpec).at F).post enc Tryz.prog Tryz.f7 false true false false) := by
 refine returnsInHanded_of_cond (C := Tryz.checked) (s := Rows.OpenSpec.upto Rows.storeApartSpec) (k := Rows.uptoSmall) rfl own started wit_in Tryz.func7
  (OpenSpec.witness (enc := enc) (C := Tryz.checked) (s := Rows.OpenSpec.upto Rows.storeApartSpec) (k := Rows.uptoSmall) rfl false ⟨#[], #[.agg #[.string ⟨#[]⟩, .slice none 0 0, .slice none 0 0, .slice none 0 0, .slice none 0 0, .slice none 0 0, .slice none 0 0, .slice none 0 0, .slice none 0 0], .agg #[.string ⟨#[]⟩, .slice none 0 0, .slice none 0 0, .slice none 0 0, .slice none 0 0, .slice none 0 0, .slice none 0 0, .slice none 0 0, .slice none 0 0]], []⟩ 8 (by kernel_rfl) (by kernel_rfl) (by kernel_rfl)
   (x := ([.agg [.lit (.string []), .nil, .nil, .nil, .nil, .nil, .nil, .nil, .nil], .agg [.lit (.string []), .nil, .nil, .nil, .nil, .nil, .nil, .nil, .nil]], [], [])) (by kernel_rfl) rfl (by kernel_rfl)) ?_
 intro W base args ds gs before hval hW _ hk _
 exact contract W H enc base args ds gs before hval hW hk
theorem f_named : Tryz.prog.funcNamed Rows.storeApartUptoRow.func = some 7 := by kernel_rfl
theorem f_inst : Tryz.f7.isInstance Tryz.prog Rows.storeApartUptoRow.origin Rows.storeApartUptoRow.targs := of_decide_eq_true (by kernel_rfl)
theorem f_wrap : Tryz.f7.isWrapper Tryz.prog Rows.storeApartUptoRow.wrapper Rows.storeApartUptoRow.mainSum := by
 unfold Func.isWrapper; first | (rw [if_pos (by decide +kernel)]; kernel_rfl) | (rw [if_neg (by decide +kernel)]; exact ⟨rfl, rfl⟩)
set_option maxRecDepth 100000 in
theorem over : Rows.storeApartUptoRow.holds Tryz.pinned (Rows.OpenSpec.upto Rows.storeApartSpec) :=
 OpenClaim.holds_of_cond 7 Tryz.f7 rfl rfl rfl rfl rfl rfl rfl ⟨rfl, rfl, rfl, rfl, rfl⟩ rfl rfl rfl rfl rfl f_named Tryz.func7 closed f_inst f_wrap
  (fun os started H enc _ F => lifted os started H enc F)
theorem proved : Rows.StoreApartUptoSaid := over
end Go.Proofs.YtdldhfocpandoaaGreat.storeApart
