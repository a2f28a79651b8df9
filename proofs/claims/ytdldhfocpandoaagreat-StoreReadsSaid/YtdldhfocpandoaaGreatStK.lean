import Derived.Test.YtdldhfocpandoaaGreatStI
set_option maxHeartbeats 8000000
set_option maxRecDepth 8000
namespace Go.Sx
open Go.Proofs Go.Proofs.Tryz
def Cz : Value := .slice none 0 0
def E0 : Value := .string ⟨#[]⟩
def HI : Value := .int .i64 0
def CF (v : Value) : List Value := [HI, E0, E0, HI, HI, E0, HI, HI, E0, HI, HI, HI, E0, E0, Cz, v]
def C5 (v : Value) : List Value := [HI, E0, E0, Cz, Cz, .bool false, HI, E0, E0, HI, HI, E0, HI, HI, E0, HI, HI, HI, E0, E0, Cz, Cz,
 HI, E0, E0, HI, HI, E0, HI, HI, E0, HI, HI, HI, E0, E0, Cz, Cz, HI, HI, HI, E0, E0, Cz, Cz, Cz, Cz, v, Cz, HI, HI]
section
variable {w : World}
theorem rep_expr {S : Nat → Prop} {l : List T} {v : Value} (h : Rep w S (.list l) (.list (.st .expr)) [v]) : Rep w S (KG l) (.st .expr) (CF v) := by
 have hs : (ByteArray.mk #[]).size ≤ maxLen := Nat.zero_le _
 have hz : Bu 0 := by unfold Bu; decide
 have hn : ∀ e, Rep w S (.list []) (.list e) [Cz] := by intro e; simp only [Rep, Cz, Jc, true_and, true_or]
 simp only [KG, Nd, Na, eS, CF]
 unfold Rep
 refine ⟨rfl, rfl, ?_⟩
 simp only [SN.fields, RepF, SN.size, Ty.size, List.drop_succ_cons, List.drop_zero, List.take_succ_cons, List.take_zero, Nat.reduceAdd]
 refine ⟨?_, ?_, ?_, ?_, ?_, ?_, ?_, ?_, hn _, h, trivial⟩ <;>
  simp only [Rep, RepF, SN.fields, SN.size, Ty.size, HI, E0, List.length_cons, List.length_nil, List.drop_succ_cons, List.drop_zero, List.take_succ_cons, List.take_zero, Nat.reduceAdd, and_true, hs, hz]
theorem Nj {S : Nat → Prop} {l : List T} {v : Value} (h : Rep w S (.list l) (.list (.st .instr)) [v]) : Rep w S (Mt l) (.st .instr) (C5 v) := by
 have hs : (ByteArray.mk #[]).size ≤ maxLen := Nat.zero_le _
 have hz : Bu 0 := by unfold Bu; decide
 have hn : ∀ e, Rep w S (.list []) (.list e) [Cz] := by intro e; simp only [Rep, Cz, Jc, true_and, true_or]
 have he : Rep w S (KG []) (.st .expr) (CF Cz) := rep_expr (hn _)
 simp only [Mt, Nd, Na, eS, C5]
 simp only [CF] at he
 unfold Rep
 refine ⟨rfl, rfl, ?_⟩
 simp only [SN.fields, RepF, SN.size, Ty.size, List.drop_succ_cons, List.drop_zero, List.take_succ_cons, List.take_zero, Nat.reduceAdd]
 refine ⟨?_, ?_, ?_, hn _, hn _, ?_, he, he, ?_, hn _, hn _, hn _, hn _, h, hn _, ?_, ?_, trivial⟩ <;>
  simp only [Rep, RepF, SN.fields, SN.size, Ty.size, HI, E0, List.length_cons, List.length_nil, List.drop_succ_cons, List.drop_zero, List.take_succ_cons, List.take_zero, Nat.reduceAdd, and_true, hs, hz]
end
end Go.Sx
