/-
  NARROWER THAN 'FOR EVERY INPUT', by the rows' own cells (each row's printed sentence says how): StoreBits: loops · StoreAny: loops · StoreApart: loops.
  DERIVED. THE GIVEN ROWS OF THIS SEAT. 10 by the template 'for every input the law returns true; each argument reads behind the call as it read before'; 0 by the template 'total and deterministic' (their statements: YtdldhfocpandoaaGreatTotals.lean).
  GIVEN WITH THE SEED: the statements are not yours to turn. If you find one false, say at which input.
  Laid BY PROGRAM, IN A SANDBOX (cutbox-rows.mjs): the forced cells as the released guide's own fill.sh prints them over the translation 59da6d6c4ef6af02… (all of the seat's roots in one cut). By AI agents, Wed Nov 11 2026. No macro, syntax, notation, axiom, sorry.
-/
import Derived.Test.YtdldhfocpandoaaGreatChecked
import GoSem.Claim
import GoSem.ClaimJoined
import GoSem.ClaimMapViews
import Derived.JoinedTies
import Derived.KernelRfl
namespace Go.Proofs.YtdldhfocpandoaaGreat
/- THE CELL 'sum', in the pinned program and in every row, IS THE sha256 OF THE DUMP (.gsa) THAT YtdldhfocpandoaaGreatProg.lean LOADS. Nothing in Lean hashes anything: it is a label: what it is worth is what the hold of that sum in a sandbox is worth. -/
noncomputable def Tryz.pinned : Pinned := { name := "ytdldhfocpandoaagreat", sum := "59da6d6c4ef6af02f9e5bf302eb93b9e279870c10bf3a066f843d8a7af65cbe6", checked := Tryz.checked }
namespace Rows
def none {H : Type} : Left H := { results := [], args := [] }

/-- 'chisellaw44.StoreReads': WHATEVER THE INPUT: true; the input reads as it did. -/
def storeReadsSpec : ChangeSpec := { name := "storeReads", fn := fun _ => fun
  | [d] => { results := [.lit (.bool true)], args := [d] }
  | _ => none }
def storeReadsRow : OpenClaim := { program := "ytdldhfocpandoaagreat", sum := "59da6d6c4ef6af02f9e5bf302eb93b9e279870c10bf3a066f843d8a7af65cbe6", func := "chisel/chisellaw44.StoreReads", spec := "storeReads", unfollowed := true, recurses := true, apart := false }
def StoreReadsSaid : Prop := storeReadsRow.holds Tryz.pinned (OpenSpec.ofChange storeReadsSpec)

/-- ITS FALSE NEIGHBOUR: 'it returns false'. Refute it at one input. -/
def storeReadsWrong : ChangeSpec := { name := "storeReads", fn := fun _ => fun
  | [d] => { results := [.lit (.bool false)], args := [d] }
  | _ => none }
def StoreReadsWrongFalsely : Prop := storeReadsRow.holds Tryz.pinned (OpenSpec.ofChange storeReadsWrong)

/-- 'chisellaw44.StoreBits': WHATEVER THE INPUT: true; the input reads as it did. -/
def storeBitsSpec : ChangeSpec := { name := "storeBits", fn := fun _ => fun
  | [d1, d2, d3, d4, d5] => { results := [.lit (.bool true)], args := [d1, d2, d3, d4, d5] }
  | _ => none }
def storeBitsRow : OpenClaim := { program := "ytdldhfocpandoaagreat", sum := "59da6d6c4ef6af02f9e5bf302eb93b9e279870c10bf3a066f843d8a7af65cbe6", func := "chisel/chisellaw44.StoreBits", spec := "storeBits", unfollowed := true, recurses := true, loops := true, apart := false }
def StoreBitsSaid : Prop := storeBitsRow.holds Tryz.pinned (OpenSpec.ofChange storeBitsSpec)

/-- ITS FALSE NEIGHBOUR: 'it returns false'. Refute it at one input. -/
def storeBitsWrong : ChangeSpec := { name := "storeBits", fn := fun _ => fun
  | [d1, d2, d3, d4, d5] => { results := [.lit (.bool false)], args := [d1, d2, d3, d4, d5] }
  | _ => none }
def StoreBitsWrongFalsely : Prop := storeBitsRow.holds Tryz.pinned (OpenSpec.ofChange storeBitsWrong)

/-- 'chisellaw44.StoreAny': WHATEVER THE INPUT: true; the input reads as it did. -/
def storeAnySpec : ChangeSpec := { name := "storeAny", fn := fun _ => fun
  | [d] => { results := [.lit (.bool true)], args := [d] }
  | _ => none }
def storeAnyRow : OpenClaim := { program := "ytdldhfocpandoaagreat", sum := "59da6d6c4ef6af02f9e5bf302eb93b9e279870c10bf3a066f843d8a7af65cbe6", func := "chisel/chisellaw44.StoreAny", spec := "storeAny", unfollowed := true, recurses := true, loops := true, apart := false }
def StoreAnySaid : Prop := storeAnyRow.holds Tryz.pinned (OpenSpec.ofChange storeAnySpec)

/-- ITS FALSE NEIGHBOUR: 'it returns false'. Refute it at one input. -/
def storeAnyWrong : ChangeSpec := { name := "storeAny", fn := fun _ => fun
  | [d] => { results := [.lit (.bool false)], args := [d] }
  | _ => none }
def StoreAnyWrongFalsely : Prop := storeAnyRow.holds Tryz.pinned (OpenSpec.ofChange storeAnyWrong)

/-- 'chisellaw44.StoreOne': WHATEVER THE INPUT: true; the input reads as it did. -/
def storeOneSpec : ChangeSpec := { name := "storeOne", fn := fun _ => fun
  | [d] => { results := [.lit (.bool true)], args := [d] }
  | _ => none }
def storeOneRow : OpenClaim := { program := "ytdldhfocpandoaagreat", sum := "59da6d6c4ef6af02f9e5bf302eb93b9e279870c10bf3a066f843d8a7af65cbe6", func := "chisel/chisellaw44.StoreOne", spec := "storeOne", unfollowed := true, recurses := true, apart := false }
def StoreOneSaid : Prop := storeOneRow.holds Tryz.pinned (OpenSpec.ofChange storeOneSpec)

/-- ITS FALSE NEIGHBOUR: 'it returns false'. Refute it at one input. -/
def storeOneWrong : ChangeSpec := { name := "storeOne", fn := fun _ => fun
  | [d] => { results := [.lit (.bool false)], args := [d] }
  | _ => none }
def StoreOneWrongFalsely : Prop := storeOneRow.holds Tryz.pinned (OpenSpec.ofChange storeOneWrong)

/-- 'chisellaw44.StoreApart': WHATEVER THE INPUT: true; the input reads as it did. -/
def storeApartSpec : ChangeSpec := { name := "storeApart", fn := fun _ => fun
  | [d1, d2] => { results := [.lit (.bool true)], args := [d1, d2] }
  | _ => none }
def storeApartRow : OpenClaim := { program := "ytdldhfocpandoaagreat", sum := "59da6d6c4ef6af02f9e5bf302eb93b9e279870c10bf3a066f843d8a7af65cbe6", func := "chisel/chisellaw44.StoreApart", spec := "storeApart", unfollowed := true, recurses := true, loops := true, apart := false }
def StoreApartSaid : Prop := storeApartRow.holds Tryz.pinned (OpenSpec.ofChange storeApartSpec)

/-- ITS FALSE NEIGHBOUR: 'it returns false'. Refute it at one input. -/
def storeApartWrong : ChangeSpec := { name := "storeApart", fn := fun _ => fun
  | [d1, d2] => { results := [.lit (.bool false)], args := [d1, d2] }
  | _ => none }
def StoreApartWrongFalsely : Prop := storeApartRow.holds Tryz.pinned (OpenSpec.ofChange storeApartWrong)

/-- 'chisellaw44.StoreDeep': WHATEVER THE INPUT: true; the input reads as it did. -/
def storeDeepSpec : ChangeSpec := { name := "storeDeep", fn := fun _ => fun
  | [d1, d2] => { results := [.lit (.bool true)], args := [d1, d2] }
  | _ => none }
def storeDeepRow : OpenClaim := { program := "ytdldhfocpandoaagreat", sum := "59da6d6c4ef6af02f9e5bf302eb93b9e279870c10bf3a066f843d8a7af65cbe6", func := "chisel/chisellaw44.StoreDeep", spec := "storeDeep", unfollowed := true, recurses := true, apart := false }
def StoreDeepSaid : Prop := storeDeepRow.holds Tryz.pinned (OpenSpec.ofChange storeDeepSpec)

/-- ITS FALSE NEIGHBOUR: 'it returns false'. Refute it at one input. -/
def storeDeepWrong : ChangeSpec := { name := "storeDeep", fn := fun _ => fun
  | [d1, d2] => { results := [.lit (.bool false)], args := [d1, d2] }
  | _ => none }
def StoreDeepWrongFalsely : Prop := storeDeepRow.holds Tryz.pinned (OpenSpec.ofChange storeDeepWrong)

/-- 'chisellaw44.StoreKnown': WHATEVER THE INPUT: true; the input reads as it did. -/
def storeKnownSpec : ChangeSpec := { name := "storeKnown", fn := fun _ => fun
  | [] => { results := [.lit (.bool true)], args := [] }
  | _ => none }
def storeKnownRow : OpenClaim := { program := "ytdldhfocpandoaagreat", sum := "59da6d6c4ef6af02f9e5bf302eb93b9e279870c10bf3a066f843d8a7af65cbe6", func := "chisel/chisellaw44.StoreKnown", spec := "storeKnown", unfollowed := true, recurses := true, apart := false }
def StoreKnownSaid : Prop := storeKnownRow.holds Tryz.pinned (OpenSpec.ofChange storeKnownSpec)

/-- ITS FALSE NEIGHBOUR: 'it returns false'. Refute it at one input. -/
def storeKnownWrong : ChangeSpec := { name := "storeKnown", fn := fun _ => fun
  | [] => { results := [.lit (.bool false)], args := [] }
  | _ => none }
def StoreKnownWrongFalsely : Prop := storeKnownRow.holds Tryz.pinned (OpenSpec.ofChange storeKnownWrong)

/-- 'chisellaw44.StoreSheets': WHATEVER THE INPUT: true; the input reads as it did. -/
def storeSheetsSpec : ChangeSpec := { name := "storeSheets", fn := fun _ => fun
  | [d] => { results := [.lit (.bool true)], args := [d] }
  | _ => none }
def storeSheetsRow : OpenClaim := { program := "ytdldhfocpandoaagreat", sum := "59da6d6c4ef6af02f9e5bf302eb93b9e279870c10bf3a066f843d8a7af65cbe6", func := "chisel/chisellaw44.StoreSheets", spec := "storeSheets", inPlace := ["math.Float64frombits", "math.Float64bits"], unfollowed := true, recurses := true, apart := false }
def StoreSheetsSaid : Prop := storeSheetsRow.holds Tryz.pinned (OpenSpec.ofChange storeSheetsSpec)

/-- ITS FALSE NEIGHBOUR: 'it returns false'. Refute it at one input. -/
def storeSheetsWrong : ChangeSpec := { name := "storeSheets", fn := fun _ => fun
  | [d] => { results := [.lit (.bool false)], args := [d] }
  | _ => none }
def StoreSheetsWrongFalsely : Prop := storeSheetsRow.holds Tryz.pinned (OpenSpec.ofChange storeSheetsWrong)

/-- 'chisellaw44.StoreDamage': WHATEVER THE INPUT: true; the input reads as it did. -/
def storeDamageSpec : ChangeSpec := { name := "storeDamage", fn := fun _ => fun
  | [d1, d2, d3, d4] => { results := [.lit (.bool true)], args := [d1, d2, d3, d4] }
  | _ => none }
def storeDamageRow : OpenClaim := { program := "ytdldhfocpandoaagreat", sum := "59da6d6c4ef6af02f9e5bf302eb93b9e279870c10bf3a066f843d8a7af65cbe6", func := "chisel/chisellaw44.StoreDamage", spec := "storeDamage", inPlace := ["math.Float64frombits", "math.Float64bits"], unfollowed := true, recurses := true, apart := false }
def StoreDamageSaid : Prop := storeDamageRow.holds Tryz.pinned (OpenSpec.ofChange storeDamageSpec)

/-- ITS FALSE NEIGHBOUR: 'it returns false'. Refute it at one input. -/
def storeDamageWrong : ChangeSpec := { name := "storeDamage", fn := fun _ => fun
  | [d1, d2, d3, d4] => { results := [.lit (.bool false)], args := [d1, d2, d3, d4] }
  | _ => none }
def StoreDamageWrongFalsely : Prop := storeDamageRow.holds Tryz.pinned (OpenSpec.ofChange storeDamageWrong)

/-- 'chisellaw44.StoreBack': WHATEVER THE INPUT: true; the input reads as it did. -/
def storeBackSpec : ChangeSpec := { name := "storeBack", fn := fun _ => fun
  | [d] => { results := [.lit (.bool true)], args := [d] }
  | _ => none }
def storeBackRow : OpenClaim := { program := "ytdldhfocpandoaagreat", sum := "59da6d6c4ef6af02f9e5bf302eb93b9e279870c10bf3a066f843d8a7af65cbe6", func := "chisel/chisellaw44.StoreBack", spec := "storeBack", inPlace := ["math.Float64frombits", "math.Float64bits"], unfollowed := true, recurses := true, apart := false }
def StoreBackSaid : Prop := storeBackRow.holds Tryz.pinned (OpenSpec.ofChange storeBackSpec)

/-- ITS FALSE NEIGHBOUR: 'it returns false'. Refute it at one input. -/
def storeBackWrong : ChangeSpec := { name := "storeBack", fn := fun _ => fun
  | [d] => { results := [.lit (.bool false)], args := [d] }
  | _ => none }
def StoreBackWrongFalsely : Prop := storeBackRow.holds Tryz.pinned (OpenSpec.ofChange storeBackWrong)

/- THE SECOND FORM. 'bulk': how many values and letters a reading holds, each counted each time it is reached (what is shared counts as often as it is met; a slice's spare places count too). A statement '..UptoSaid' is the law's where the arguments, and the package variables that the reading takes, are together of bulk at most 1048576: NARROWER than '..Said'. Prove '..Said' where nothing that the law and all that it calls make is longer than what came in: it says more and counts as full. Else prove '..UptoSaid'. A law counts once. -/
mutual
def uptoBulk {H : Type} : DataW H → Nat
  | .lit (.string bytes) => bytes.length + 1
  | .lit _ => 1
  | .nil => 1
  | .ptr d => uptoBulk d + 1
  | .slice elems spare => uptoBulkAll elems + uptoBulkAll spare + 1
  | .agg parts => uptoBulkAll parts + 1
  | .iface _ d => uptoBulk d + 1
  | .map entries => uptoBulkEntries entries + 1
  | .held _ => 1
def uptoBulkAll {H : Type} : List (DataW H) → Nat
  | [] => 0
  | d :: r => uptoBulk d + uptoBulkAll r
def uptoBulkEntries {H : Type} : List (Lit × DataW H) → Nat
  | [] => 0
  | x :: r => uptoBulkEntry x + uptoBulkEntries r
def uptoBulkEntry {H : Type} : Lit × DataW H → Nat
  | (.string bytes, d) => bytes.length + uptoBulk d + 1
  | (_, d) => uptoBulk d + 1
 end
def uptoSmall : (H : Type) → List (DataW H) → Bool := fun _ ds => decide (uptoBulkAll ds ≤ 1048576)
def OpenSpec.upto (s : _root_.Go.ChangeSpec) : _root_.Go.OpenSpec := { _root_.Go.OpenSpec.ofChange s with cond := some uptoSmall }

/-- 'chisellaw44.StoreReads', WHERE WHAT IT READS IS OF BULK AT MOST 1048576: true; the input reads as it did. -/
def storeReadsUptoRow : OpenClaim := { program := "ytdldhfocpandoaagreat", sum := "59da6d6c4ef6af02f9e5bf302eb93b9e279870c10bf3a066f843d8a7af65cbe6", func := "chisel/chisellaw44.StoreReads", spec := "storeReads", unfollowed := true, recurses := true, apart := false, narrowed := true }
def StoreReadsUptoSaid : Prop := storeReadsUptoRow.holds Tryz.pinned (OpenSpec.upto storeReadsSpec)

/-- 'chisellaw44.StoreBits', WHERE WHAT IT READS IS OF BULK AT MOST 1048576: true; the input reads as it did. -/
def storeBitsUptoRow : OpenClaim := { program := "ytdldhfocpandoaagreat", sum := "59da6d6c4ef6af02f9e5bf302eb93b9e279870c10bf3a066f843d8a7af65cbe6", func := "chisel/chisellaw44.StoreBits", spec := "storeBits", unfollowed := true, recurses := true, loops := true, apart := false, narrowed := true }
def StoreBitsUptoSaid : Prop := storeBitsUptoRow.holds Tryz.pinned (OpenSpec.upto storeBitsSpec)

/-- 'chisellaw44.StoreAny', WHERE WHAT IT READS IS OF BULK AT MOST 1048576: true; the input reads as it did. -/
def storeAnyUptoRow : OpenClaim := { program := "ytdldhfocpandoaagreat", sum := "59da6d6c4ef6af02f9e5bf302eb93b9e279870c10bf3a066f843d8a7af65cbe6", func := "chisel/chisellaw44.StoreAny", spec := "storeAny", unfollowed := true, recurses := true, loops := true, apart := false, narrowed := true }
def StoreAnyUptoSaid : Prop := storeAnyUptoRow.holds Tryz.pinned (OpenSpec.upto storeAnySpec)

/-- 'chisellaw44.StoreOne', WHERE WHAT IT READS IS OF BULK AT MOST 1048576: true; the input reads as it did. -/
def storeOneUptoRow : OpenClaim := { program := "ytdldhfocpandoaagreat", sum := "59da6d6c4ef6af02f9e5bf302eb93b9e279870c10bf3a066f843d8a7af65cbe6", func := "chisel/chisellaw44.StoreOne", spec := "storeOne", unfollowed := true, recurses := true, apart := false, narrowed := true }
def StoreOneUptoSaid : Prop := storeOneUptoRow.holds Tryz.pinned (OpenSpec.upto storeOneSpec)

/-- 'chisellaw44.StoreApart', WHERE WHAT IT READS IS OF BULK AT MOST 1048576: true; the input reads as it did. -/
def storeApartUptoRow : OpenClaim := { program := "ytdldhfocpandoaagreat", sum := "59da6d6c4ef6af02f9e5bf302eb93b9e279870c10bf3a066f843d8a7af65cbe6", func := "chisel/chisellaw44.StoreApart", spec := "storeApart", unfollowed := true, recurses := true, loops := true, apart := false, narrowed := true }
def StoreApartUptoSaid : Prop := storeApartUptoRow.holds Tryz.pinned (OpenSpec.upto storeApartSpec)

/-- 'chisellaw44.StoreDeep', WHERE WHAT IT READS IS OF BULK AT MOST 1048576: true; the input reads as it did. -/
def storeDeepUptoRow : OpenClaim := { program := "ytdldhfocpandoaagreat", sum := "59da6d6c4ef6af02f9e5bf302eb93b9e279870c10bf3a066f843d8a7af65cbe6", func := "chisel/chisellaw44.StoreDeep", spec := "storeDeep", unfollowed := true, recurses := true, apart := false, narrowed := true }
def StoreDeepUptoSaid : Prop := storeDeepUptoRow.holds Tryz.pinned (OpenSpec.upto storeDeepSpec)

/-- 'chisellaw44.StoreKnown', WHERE WHAT IT READS IS OF BULK AT MOST 1048576: true; the input reads as it did. -/
def storeKnownUptoRow : OpenClaim := { program := "ytdldhfocpandoaagreat", sum := "59da6d6c4ef6af02f9e5bf302eb93b9e279870c10bf3a066f843d8a7af65cbe6", func := "chisel/chisellaw44.StoreKnown", spec := "storeKnown", unfollowed := true, recurses := true, apart := false, narrowed := true }
def StoreKnownUptoSaid : Prop := storeKnownUptoRow.holds Tryz.pinned (OpenSpec.upto storeKnownSpec)

/-- 'chisellaw44.StoreSheets', WHERE WHAT IT READS IS OF BULK AT MOST 1048576: true; the input reads as it did. -/
def storeSheetsUptoRow : OpenClaim := { program := "ytdldhfocpandoaagreat", sum := "59da6d6c4ef6af02f9e5bf302eb93b9e279870c10bf3a066f843d8a7af65cbe6", func := "chisel/chisellaw44.StoreSheets", spec := "storeSheets", inPlace := ["math.Float64frombits", "math.Float64bits"], unfollowed := true, recurses := true, apart := false, narrowed := true }
def StoreSheetsUptoSaid : Prop := storeSheetsUptoRow.holds Tryz.pinned (OpenSpec.upto storeSheetsSpec)

/-- 'chisellaw44.StoreDamage', WHERE WHAT IT READS IS OF BULK AT MOST 1048576: true; the input reads as it did. -/
def storeDamageUptoRow : OpenClaim := { program := "ytdldhfocpandoaagreat", sum := "59da6d6c4ef6af02f9e5bf302eb93b9e279870c10bf3a066f843d8a7af65cbe6", func := "chisel/chisellaw44.StoreDamage", spec := "storeDamage", inPlace := ["math.Float64frombits", "math.Float64bits"], unfollowed := true, recurses := true, apart := false, narrowed := true }
def StoreDamageUptoSaid : Prop := storeDamageUptoRow.holds Tryz.pinned (OpenSpec.upto storeDamageSpec)

/-- 'chisellaw44.StoreBack', WHERE WHAT IT READS IS OF BULK AT MOST 1048576: true; the input reads as it did. -/
def storeBackUptoRow : OpenClaim := { program := "ytdldhfocpandoaagreat", sum := "59da6d6c4ef6af02f9e5bf302eb93b9e279870c10bf3a066f843d8a7af65cbe6", func := "chisel/chisellaw44.StoreBack", spec := "storeBack", inPlace := ["math.Float64frombits", "math.Float64bits"], unfollowed := true, recurses := true, apart := false, narrowed := true }
def StoreBackUptoSaid : Prop := storeBackUptoRow.holds Tryz.pinned (OpenSpec.upto storeBackSpec)

end Rows
end Go.Proofs.YtdldhfocpandoaaGreat
