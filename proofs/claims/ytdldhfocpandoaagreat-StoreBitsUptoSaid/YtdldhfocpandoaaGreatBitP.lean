/- StoreBits holds where the arguments are together of bulk at most 1048576: the program answers true: stylesheets of any kind, with uses of others, are written and compared as the document says. Condition: the bound of the second form. -/
import Derived.Test.YtdldhfocpandoaaGreatRows
import Derived.Test.YtdldhfocpandoaaGreatStL
import Derived.Test.YtdldhfocpandoaaGreatStJ
import Derived.Test.YtdldhfocpandoaaGreatStT
import Derived.Test.YtdldhfocpandoaaGreatStS
import Derived.WalkKit
import Derived.JoinedCond
namespace Go.Proofs.YtdldhfocpandoaaGreat.storeBits
open Go.ChangeShapes Go.WideShapes Go.ChangeAt Go.RowKit Go.Sx
theorem own : ownKnob Tryz.prog.godebug = none := by kernel_rfl
theorem k_wf : Rows.storeBitsUptoRow.wf (OpenSpec.ofChange Rows.storeBitsSpec) = true := by kernel_rfl
theorem k_params : Tryz.f4.params.all (Tryz.prog.readableRec ·) = true := by kernel_rfl
theorem k_sized : Tryz.f4.params.toList.all (fun t => Tryz.prog.readableRec t && decide (t < Tryz.prog.types.size)) = true := by kernel_rfl
theorem k_tie : namedTie Tryz.prog Rows.storeBitsUptoRow.named Rows.storeBitsSpec.vars = true := by kernel_rfl
theorem k_place : (Rows.storeBitsUptoRow.inPlace == Tryz.prog.inPlace 4) = true := by kernel_rfl
theorem k_unf : (Rows.storeBitsUptoRow.unfollowed == Tryz.prog.unfollowed 4) = true := by kernel_rfl
theorem k_rec : (Rows.storeBitsUptoRow.recurses == Tryz.prog.recurses 4) = true := by kernel_rfl
theorem k_named : (Rows.storeBitsUptoRow.named == Tryz.prog.varsNamed 4) = true := by kernel_rfl
theorem k_maps : (Rows.storeBitsUptoRow.maps == (Tryz.f4.params.toList ++ Rows.storeBitsSpec.plain.varTypes Tryz.prog).any (Tryz.prog.mapsRec ·)) = true := by kernel_rfl
theorem k_ifaces : (Rows.storeBitsUptoRow.ifaces == (Tryz.f4.params.toList ++ Rows.storeBitsSpec.plain.varTypes Tryz.prog).any (Tryz.prog.ifacesRec ·)) = true := by kernel_rfl
theorem k_mapsOut : (Rows.storeBitsUptoRow.mapsOut == Tryz.prog.mapsAmong Tryz.f4.resultTypes.toList) = true := by kernel_rfl
theorem k_loops : (Rows.storeBitsUptoRow.loops == (Tryz.f4.params.toList ++ Rows.storeBitsSpec.plain.varTypes Tryz.prog).any (Tryz.prog.loopsFrom ·)) = true := by kernel_rfl
theorem k_wide : (Rows.storeBitsUptoRow.wideKeys == (Tryz.f4.params.toList ++ Rows.storeBitsSpec.plain.varTypes Tryz.prog ++ Tryz.f4.resultTypes.toList).any (Tryz.prog.wideKeysFrom ·)) = true := by kernel_rfl
theorem k_vars : Rows.storeBitsSpec.vars.all (Tryz.prog.varReadable ·) = true := by kernel_rfl
theorem k_res : Tryz.f4.resultTypes.all (fun t => Tryz.prog.readableRec t && decide (t < Tryz.prog.types.size)) = true := by kernel_rfl
theorem k_ifacesOut : (Rows.storeBitsUptoRow.ifacesOut == Tryz.f4.resultTypes.toList.any (Tryz.prog.ifacesRec ·)) = true := by kernel_rfl
theorem k_loopsOut : (Rows.storeBitsUptoRow.loopsOut == Tryz.f4.resultTypes.toList.any (Tryz.prog.loopsFrom ·)) = true := by kernel_rfl
theorem k_keys : (Rows.storeBitsUptoRow.plainKeys == Tryz.prog.plainKeys) = true := by rw [clo_keys]; rfl
theorem k_lifts : (Rows.storeBitsUptoRow.lifted == Tryz.prog.liftsFinal) = true := by rw [clo_lifts]; rfl
theorem k_make : (Tryz.prog.make == some Rows.storeBitsUptoRow.make) = true := by rw [clo_make]; rfl
theorem k_kinds : (Rows.storeBitsUptoRow.kinds == (if Rows.storeBitsUptoRow.domain.isEmpty then [] else Tryz.f4.params.toList.map fun t => match Tryz.prog.underlying t with | some (.int k) => some k | _ => none)) = true := by kernel_rfl
theorem k_pinned : (Rows.storeBitsUptoRow.pinned == Rows.storeBitsUptoRow.pinnedBy) = true := by kernel_rfl
theorem k_veiled : (Rows.storeBitsUptoRow.veiled == (Tryz.f4.params.toList ++ Rows.storeBitsSpec.plain.varTypes Tryz.prog ++ Tryz.f4.resultTypes.toList).any (Tryz.prog.veiledRec ·)) = true := by kernel_rfl
theorem k_fits : Rows.storeBitsUptoRow.veiledFits Tryz.prog Tryz.f4.params.toList (Tryz.f4.params.toList ++ Rows.storeBitsSpec.plain.varTypes Tryz.prog ++ Tryz.f4.resultTypes.toList) = true := by kernel_rfl
theorem k_stops : (Rows.storeBitsUptoRow.stops == []) = true := rfl
theorem k_knobs : (Rows.storeBitsUptoRow.knobs == []) = true := rfl
theorem k_short : Rows.storeBitsUptoRow.shortTexts.isNone = true := rfl
set_option maxRecDepth 100000 in
theorem closed : joinedFacts Tryz.prog 4 Tryz.f4 Rows.storeBitsSpec Rows.storeBitsUptoRow = true := by
 unfold joinedFacts
 simp only [Bool.and_eq_true]
 exact ⟨⟨⟨⟨⟨⟨⟨⟨⟨⟨⟨⟨⟨⟨⟨⟨⟨⟨⟨⟨⟨⟨⟨⟨⟨⟨⟨⟨⟨⟨⟨k_wf, clo_laid⟩, clo_rowed⟩, k_params⟩, k_tie⟩, k_stops⟩, clo_stops⟩, k_knobs⟩, clo_knobs⟩, k_place⟩, k_unf⟩, k_rec⟩, k_named⟩, k_maps⟩, k_ifaces⟩, k_mapsOut⟩, k_loops⟩, k_wide⟩, k_vars⟩, k_res⟩, k_ifacesOut⟩, k_loopsOut⟩, k_keys⟩, k_short⟩, clo_heard⟩, clo_enter⟩, k_lifts⟩, k_make⟩, k_kinds⟩, k_pinned⟩, k_veiled⟩, k_fits⟩
theorem params_ok : ∀ t ∈ Tryz.f4.params.toList, Tryz.prog.readableRec t = true ∧ t < Tryz.prog.types.size := by
 intro t ht
 have := List.all_eq_true.1 k_sized t ht
 simp only [Bool.and_eq_true, decide_eq_true_eq] at this
 exact this
theorem fn_args {H : Type} {enc : TypeId × Value → H} {W : World} {args : Array Value} {ds : List (DataW H)} {p : List MemPlace} (hA : DataW.TrodAll enc Tryz.prog W 0 (fun _ => true) true Tryz.f4.params.toList args.toList ds p) :
 Rows.storeBitsSpec.fn H ds = { results := [.lit (.bool true)], args := ds } := by
 obtain ⟨_, _, _, _, _, _, _, rfl, _, _, r0⟩ := trodAll_cons hA
 obtain ⟨_, _, _, _, _, _, _, rfl, _, _, r1⟩ := trodAll_cons r0
 obtain ⟨_, _, _, _, _, _, _, rfl, _, _, r2⟩ := trodAll_cons r1
 obtain ⟨_, _, _, _, _, _, _, rfl, _, _, r3⟩ := trodAll_cons r2
 obtain ⟨_, _, _, _, _, _, _, rfl, _, _, r4⟩ := trodAll_cons r3
 obtain ⟨_, rfl, _⟩ := trodAll_nil r4
 rfl
set_option maxRecDepth 100000 in
theorem walk (W : World) (H : Type) (enc : TypeId × Value → H) (base : Nat) (args : Array Value) (ds : List (DataW H)) (p : List MemPlace)
 (hval : ∀ (j : Nat) t v, Tryz.f4.params[j]? = some t → args[j]? = some v → Value.okWide Tryz.prog W .any base t v)
 (hA : DataW.TrodAll enc Tryz.prog W 0 (fun _ => true) true Tryz.f4.params.toList args.toList ds p) (hk : Rows.uptoSmall H ds = true) :
 Calls Tryz.prog 4 args W (fun e W' => e = .returned (.bool true) ∧ Fr (fun _ => False) W (fun _ => False) W') := by
 rw [Tryz.params4] at hA hval
 obtain ⟨v0, vs0, d0, ds0, p0, q0, hargs, rfl, rfl, h0, r0⟩ := trodAll_cons hA
 obtain ⟨v1, vs1, d1, ds1, p1, q1, hargs1, rfl, rfl, h1, r1⟩ := trodAll_cons r0
 obtain ⟨v2, vs2, d2, ds2, p2, q2, hargs2, rfl, rfl, h2, r2⟩ := trodAll_cons r1
 obtain ⟨v3, vs3, d3, ds3, p3, q3, hargs3, rfl, rfl, h3, r3⟩ := trodAll_cons r2
 obtain ⟨v4, vs4, d4, ds4, p4, q4, hargs4, rfl, rfl, h4, r4⟩ := trodAll_cons r3
 obtain ⟨rfl, rfl, rfl⟩ := trodAll_nil r4
 obtain rfl : args = #[v0, v1, v2, v3, v4] := by cases args; simp_all
 obtain ⟨bs, t, rfl, hB, hwt⟩ := bits_arg (hval 0 43 v0 rfl rfl) h0
 obtain ⟨es, u, rfl, hE, hwu⟩ := bits_arg (hval 1 43 v1 rfl rfl) h1
 obtain ⟨g, l, c, rfl⟩ := okWide_slice Tryz.underlying44 (hval 2 44 v2 rfl rfl)
 obtain ⟨n, hn⟩ := h2
 obtain ⟨tn, hr, _⟩ := rep_of n (.list .str) _ _ rfl hn
 obtain ⟨ln, rfl⟩ := hr.is_list
 obtain ⟨line, rfl, rfl, rfl, wl⟩ := open_int Tryz.underlying3 (hval 3 3 v3 rfl rfl) h3
 obtain ⟨col, rfl, rfl, rfl, wc⟩ := open_int Tryz.underlying3 (hval 4 3 v4 rfl rfl) h4
 have hb := of_decide_eq_true hk
 simp only [Rows.uptoBulkAll] at hb
 refine (c4 (w := W) (line := line) (col := col) hB hE hr (by omega) (by omega) (int_wf wl) (int_wf wc)).mono ?_
 intro e w' h
 cases e with
 | returned v => obtain ⟨rfl, f⟩ := h; exact ⟨rfl, f⟩
 | panicked ch => exact h.elim
 | outgrown => exact h.elim
set_option maxRecDepth 100000 in
theorem contract (W : World) (H : Type) (enc : TypeId × Value → H) (base : Nat) (args : Array Value) (ds gs : List (DataW H)) (before : List MemPlace)
 (hval : ∀ (j : Nat) t v, Tryz.f4.params[j]? = some t → args[j]? = some v → Value.okWide Tryz.prog W .any base t v)
 (hW : DataW.Whole enc Tryz.prog Tryz.f4.params.toList Rows.storeBitsSpec.vars false W args.toList ds gs before) (hk : Rows.uptoSmall H (ds ++ gs) = true) :
 Calls Tryz.prog 4 args W fun e W' => ∃ v, e = .returned v ∧ Rows.storeBitsSpec.post enc Tryz.prog Tryz.f4 false true false false W args v W' := by
 have hW' := hW
 obtain ⟨p, q, hA, hV, rfl, _, _⟩ := hW
 obtain ⟨rfl, rfl⟩ := trodVars_none hV
 simp only [List.append_nil] at hW' hk
 refine (walk W H enc base args ds p hval hA hk).mono fun e W' ⟨he, hg⟩ => ?_
 subst he
 refine ⟨_, rfl, ?_⟩
 exact post_true clo_laid rfl (fn_args hA) rfl Tryz.underlying4 params_ok hW' hg
theorem wit_in : Tryz.prog.inits.idxOf? 4 = none := by kernel_rfl
set_option maxRecDepth 100000 in
theorem lifted (os : Os) (started : os.Started) (H : Type) (enc : TypeId × Value → H) (F : Stop.Interp) :
 ReturnsInHanded {} Tryz.checked os 4 .any ((Rows.OpenSpec.upto Rows.storeBitsSpec).pre6 enc Tryz.prog Tryz.f4 Rows.storeBitsUptoRow.domain false) (((Rows.OpenSpec.upto Rows.storeBitsSpec).at F).post enc Tryz.prog Tryz.f4 false true false false) := by
 refine returnsInHanded_of_cond (C := Tryz.checked) (s := Rows.OpenSpec.upto Rows.storeBitsSpec) (k := Rows.uptoSmall) rfl own started wit_in Tryz.func4
  (OpenSpec.witness (enc := enc) (C := Tryz.checked) (s := Rows.OpenSpec.upto Rows.storeBitsSpec) (k := Rows.uptoSmall) rfl false ⟨#[], #[.agg #[.string ⟨#[]⟩, .slice none 0 0, .slice none 0 0, .slice none 0 0, .slice none 0 0, .slice none 0 0, .slice none 0 0, .slice none 0 0, .slice none 0 0], .agg #[.string ⟨#[]⟩, .slice none 0 0, .slice none 0 0, .slice none 0 0, .slice none 0 0, .slice none 0 0, .slice none 0 0, .slice none 0 0, .slice none 0 0], .slice none 0 0, .int .i64 0, .int .i64 0], []⟩ 8 (by kernel_rfl) (by kernel_rfl) (by kernel_rfl)
   (x := ([.agg [.lit (.string []), .nil, .nil, .nil, .nil, .nil, .nil, .nil, .nil], .agg [.lit (.string []), .nil, .nil, .nil, .nil, .nil, .nil, .nil, .nil], .nil, .lit (.int .i64 0), .lit (.int .i64 0)], [], [])) (by kernel_rfl) rfl (by kernel_rfl)) ?_
 intro W base args ds gs before hval hW _ hk _
 exact contract W H enc base args ds gs before hval hW hk
theorem f_named : Tryz.prog.funcNamed Rows.storeBitsUptoRow.func = some 4 := by kernel_rfl
theorem f_inst : Tryz.f4.isInstance Tryz.prog Rows.storeBitsUptoRow.origin Rows.storeBitsUptoRow.targs := of_decide_eq_true (by kernel_rfl)
theorem f_wrap : Tryz.f4.isWrapper Tryz.prog Rows.storeBitsUptoRow.wrapper Rows.storeBitsUptoRow.mainSum := by
 unfold Func.isWrapper; first | (rw [if_pos (by decide +kernel)]; kernel_rfl) | (rw [if_neg (by decide +kernel)]; exact ⟨rfl, rfl⟩)
set_option maxRecDepth 100000 in
theorem over : Rows.storeBitsUptoRow.holds Tryz.pinned (Rows.OpenSpec.upto Rows.storeBitsSpec) :=
 OpenClaim.holds_of_cond 4 Tryz.f4 rfl rfl rfl rfl rfl rfl rfl ⟨rfl, rfl, rfl, rfl, rfl⟩ rfl rfl rfl rfl rfl f_named Tryz.func4 closed f_inst f_wrap
  (fun os started H enc _ F => lifted os started H enc F)
theorem proved : Rows.StoreBitsUptoSaid := over
end Go.Proofs.YtdldhfocpandoaaGreat.storeBits
