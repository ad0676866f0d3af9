/-
  No cell of these rows narrows 'for every input' (looked for: loops, veiled, ifaces, maps, wideKeys, modest, calm, conditions, laid).
  DERIVED. THE GIVEN ROWS OF THIS SEAT. 8 by the template 'for every input the law returns true; each argument reads behind the call as it read before'; 0 by the template 'total and deterministic' (their statements: YtolloakdibhidaaTotals.lean).
  GIVEN WITH THE SEED: the statements are not yours to turn. If you find one false, say at which input.
  Laid BY PROGRAM, IN A SANDBOX (cutbox-rows.mjs): the forced cells as the released guide's own fill.sh prints them over the translation c850ec3423f0d312… (all of the seat's roots in one cut). By AI agents, Wed Nov 11 2026. No macro, syntax, notation, axiom, sorry.
-/
import Derived.Test.YtolloakdibhidaaChecked
import GoSem.Claim
import GoSem.ClaimJoined
import GoSem.ClaimMapViews
import Derived.JoinedTies
import Derived.KernelRfl
namespace Go.Proofs.Ytolloakdibhidaa
/- THE CELL 'sum', in the pinned program and in every row, IS THE sha256 OF THE DUMP (.gsa) THAT YtolloakdibhidaaProg.lean LOADS. Nothing in Lean hashes anything: it is a label: what it is worth is what the hold of that sum in a sandbox is worth. -/
noncomputable def Try.pinned : Pinned := { name := "ytolloakdibhidaa", sum := "c850ec3423f0d3123d90e5d22e800fb3d773abc4bdd20c6777b1334870678c26", checked := Try.checked }
namespace Rows
def none {H : Type} : Left H := { results := [], args := [] }

/-- 'laws.FnExactConfOk': WHATEVER THE INPUT: true; the input reads as it did. -/
def fnExactConfOkSpec : ChangeSpec := { name := "fnExactConfOk", fn := fun _ => fun
  | [d] => { results := [.lit (.bool true)], args := [d] }
  | _ => none }
def fnExactConfOkRow : OpenClaim := { program := "ytolloakdibhidaa", sum := "c850ec3423f0d3123d90e5d22e800fb3d773abc4bdd20c6777b1334870678c26", func := "loop.example/g00141/laws.FnExactConfOk", spec := "fnExactConfOk", unfollowed := true, recurses := true, apart := false }
def FnExactConfOkSaid : Prop := fnExactConfOkRow.holds Try.pinned (OpenSpec.ofChange fnExactConfOkSpec)

/-- ITS FALSE NEIGHBOUR: 'it returns false'. Refute it at one input. -/
def fnExactConfOkWrong : ChangeSpec := { name := "fnExactConfOk", fn := fun _ => fun
  | [d] => { results := [.lit (.bool false)], args := [d] }
  | _ => none }
def FnExactConfOkWrongFalsely : Prop := fnExactConfOkRow.holds Try.pinned (OpenSpec.ofChange fnExactConfOkWrong)

/-- 'laws.FnExactQuorum': WHATEVER THE INPUT: true; the input reads as it did. -/
def fnExactQuorumSpec : ChangeSpec := { name := "fnExactQuorum", fn := fun _ => fun
  | [d1, d2] => { results := [.lit (.bool true)], args := [d1, d2] }
  | _ => none }
def fnExactQuorumRow : OpenClaim := { program := "ytolloakdibhidaa", sum := "c850ec3423f0d3123d90e5d22e800fb3d773abc4bdd20c6777b1334870678c26", func := "loop.example/g00141/laws.FnExactQuorum", spec := "fnExactQuorum", unfollowed := true, recurses := true, apart := false }
def FnExactQuorumSaid : Prop := fnExactQuorumRow.holds Try.pinned (OpenSpec.ofChange fnExactQuorumSpec)

/-- ITS FALSE NEIGHBOUR: 'it returns false'. Refute it at one input. -/
def fnExactQuorumWrong : ChangeSpec := { name := "fnExactQuorum", fn := fun _ => fun
  | [d1, d2] => { results := [.lit (.bool false)], args := [d1, d2] }
  | _ => none }
def FnExactQuorumWrongFalsely : Prop := fnExactQuorumRow.holds Try.pinned (OpenSpec.ofChange fnExactQuorumWrong)

/-- 'laws.FnExactPieces': WHATEVER THE INPUT: true; the input reads as it did. -/
def fnExactPiecesSpec : ChangeSpec := { name := "fnExactPieces", fn := fun _ => fun
  | [d1, d2] => { results := [.lit (.bool true)], args := [d1, d2] }
  | _ => none }
def fnExactPiecesRow : OpenClaim := { program := "ytolloakdibhidaa", sum := "c850ec3423f0d3123d90e5d22e800fb3d773abc4bdd20c6777b1334870678c26", func := "loop.example/g00141/laws.FnExactPieces", spec := "fnExactPieces", named := ["encoding/binary.LittleEndian"], apart := false }
def FnExactPiecesSaid : Prop := fnExactPiecesRow.holds Try.pinned (OpenSpec.ofChange fnExactPiecesSpec)

/-- ITS FALSE NEIGHBOUR: 'it returns false'. Refute it at one input. -/
def fnExactPiecesWrong : ChangeSpec := { name := "fnExactPieces", fn := fun _ => fun
  | [d1, d2] => { results := [.lit (.bool false)], args := [d1, d2] }
  | _ => none }
def FnExactPiecesWrongFalsely : Prop := fnExactPiecesRow.holds Try.pinned (OpenSpec.ofChange fnExactPiecesWrong)

/-- 'laws.FnExactMeet': WHATEVER THE INPUT: true; the input reads as it did. -/
def fnExactMeetSpec : ChangeSpec := { name := "fnExactMeet", fn := fun _ => fun
  | [d1, d2] => { results := [.lit (.bool true)], args := [d1, d2] }
  | _ => none }
def fnExactMeetRow : OpenClaim := { program := "ytolloakdibhidaa", sum := "c850ec3423f0d3123d90e5d22e800fb3d773abc4bdd20c6777b1334870678c26", func := "loop.example/g00141/laws.FnExactMeet", spec := "fnExactMeet", unfollowed := true, recurses := true, apart := false }
def FnExactMeetSaid : Prop := fnExactMeetRow.holds Try.pinned (OpenSpec.ofChange fnExactMeetSpec)

/-- ITS FALSE NEIGHBOUR: 'it returns false'. Refute it at one input. -/
def fnExactMeetWrong : ChangeSpec := { name := "fnExactMeet", fn := fun _ => fun
  | [d1, d2] => { results := [.lit (.bool false)], args := [d1, d2] }
  | _ => none }
def FnExactMeetWrongFalsely : Prop := fnExactMeetRow.holds Try.pinned (OpenSpec.ofChange fnExactMeetWrong)

/-- 'laws.FnQuorums': WHATEVER THE INPUT: true; the input reads as it did. -/
def fnQuorumsSpec : ChangeSpec := { name := "fnQuorums", fn := fun _ => fun
  | [d] => { results := [.lit (.bool true)], args := [d] }
  | _ => none }
def fnQuorumsRow : OpenClaim := { program := "ytolloakdibhidaa", sum := "c850ec3423f0d3123d90e5d22e800fb3d773abc4bdd20c6777b1334870678c26", func := "loop.example/g00141/laws.FnQuorums", spec := "fnQuorums", unfollowed := true, recurses := true, apart := false }
def FnQuorumsSaid : Prop := fnQuorumsRow.holds Try.pinned (OpenSpec.ofChange fnQuorumsSpec)

/-- ITS FALSE NEIGHBOUR: 'it returns false'. Refute it at one input. -/
def fnQuorumsWrong : ChangeSpec := { name := "fnQuorums", fn := fun _ => fun
  | [d] => { results := [.lit (.bool false)], args := [d] }
  | _ => none }
def FnQuorumsWrongFalsely : Prop := fnQuorumsRow.holds Try.pinned (OpenSpec.ofChange fnQuorumsWrong)

/-- 'laws.FnExactWhole': WHATEVER THE INPUT: true; the input reads as it did. -/
def fnExactWholeSpec : ChangeSpec := { name := "fnExactWhole", fn := fun _ => fun
  | [d] => { results := [.lit (.bool true)], args := [d] }
  | _ => none }
def fnExactWholeRow : OpenClaim := { program := "ytolloakdibhidaa", sum := "c850ec3423f0d3123d90e5d22e800fb3d773abc4bdd20c6777b1334870678c26", func := "loop.example/g00141/laws.FnExactWhole", spec := "fnExactWhole", inPlace := ["internal/abi.NoEscape"], named := ["encoding/binary.LittleEndian"], apart := false }
def FnExactWholeSaid : Prop := fnExactWholeRow.holds Try.pinned (OpenSpec.ofChange fnExactWholeSpec)

/-- ITS FALSE NEIGHBOUR: 'it returns false'. Refute it at one input. -/
def fnExactWholeWrong : ChangeSpec := { name := "fnExactWhole", fn := fun _ => fun
  | [d] => { results := [.lit (.bool false)], args := [d] }
  | _ => none }
def FnExactWholeWrongFalsely : Prop := fnExactWholeRow.holds Try.pinned (OpenSpec.ofChange fnExactWholeWrong)

/-- 'laws.FnExactChanged': WHATEVER THE INPUT: true; the input reads as it did. -/
def fnExactChangedSpec : ChangeSpec := { name := "fnExactChanged", fn := fun _ => fun
  | [d1, d2, d3] => { results := [.lit (.bool true)], args := [d1, d2, d3] }
  | _ => none }
def fnExactChangedRow : OpenClaim := { program := "ytolloakdibhidaa", sum := "c850ec3423f0d3123d90e5d22e800fb3d773abc4bdd20c6777b1334870678c26", func := "loop.example/g00141/laws.FnExactChanged", spec := "fnExactChanged", inPlace := ["slices.overlaps[int64]"], unfollowed := true, recurses := true, apart := false }
def FnExactChangedSaid : Prop := fnExactChangedRow.holds Try.pinned (OpenSpec.ofChange fnExactChangedSpec)

/-- ITS FALSE NEIGHBOUR: 'it returns false'. Refute it at one input. -/
def fnExactChangedWrong : ChangeSpec := { name := "fnExactChanged", fn := fun _ => fun
  | [d1, d2, d3] => { results := [.lit (.bool false)], args := [d1, d2, d3] }
  | _ => none }
def FnExactChangedWrongFalsely : Prop := fnExactChangedRow.holds Try.pinned (OpenSpec.ofChange fnExactChangedWrong)

/-- 'laws.FnPieces': WHATEVER THE INPUT: true; the input reads as it did. -/
def fnPiecesSpec : ChangeSpec := { name := "fnPieces", fn := fun _ => fun
  | [d1, d2] => { results := [.lit (.bool true)], args := [d1, d2] }
  | _ => none }
def fnPiecesRow : OpenClaim := { program := "ytolloakdibhidaa", sum := "c850ec3423f0d3123d90e5d22e800fb3d773abc4bdd20c6777b1334870678c26", func := "loop.example/g00141/laws.FnPieces", spec := "fnPieces", inPlace := ["internal/abi.NoEscape"], named := ["encoding/binary.LittleEndian"], apart := false }
def FnPiecesSaid : Prop := fnPiecesRow.holds Try.pinned (OpenSpec.ofChange fnPiecesSpec)

/-- ITS FALSE NEIGHBOUR: 'it returns false'. Refute it at one input. -/
def fnPiecesWrong : ChangeSpec := { name := "fnPieces", fn := fun _ => fun
  | [d1, d2] => { results := [.lit (.bool false)], args := [d1, d2] }
  | _ => none }
def FnPiecesWrongFalsely : Prop := fnPiecesRow.holds Try.pinned (OpenSpec.ofChange fnPiecesWrong)

/- THE SECOND FORM. 'bulk': how many values and letters a reading holds, each counted each time it is reached (what is shared counts as often as it is met; a slice's spare places count too). A statement '..UptoSaid' is the law's where the arguments, and the package variables that the reading takes, are together of bulk at most 1048576: NARROWER than '..Said'. Prove '..Said' where nothing that the law and all that it calls make is longer than what came in: it says more and counts as full. Else prove '..UptoSaid'. A law counts once. -/
mutual
def uptoBulk {H : Type} : DataW H → Nat
  | .lit (.string bytes) => bytes.length + 1
  | .lit _ => 1
  | .nil => 1
  | .ptr d => uptoBulk d + 1
  | .slice elems spare => uptoBulkAll elems + uptoBulkAll spare + 1
  | .agg parts => uptoBulkAll parts + 1
  | .iface _ d => uptoBulk d + 1
  | .map entries => uptoBulkEntries entries + 1
  | .held _ => 1
def uptoBulkAll {H : Type} : List (DataW H) → Nat
  | [] => 0
  | d :: r => uptoBulk d + uptoBulkAll r
def uptoBulkEntries {H : Type} : List (Lit × DataW H) → Nat
  | [] => 0
  | x :: r => uptoBulkEntry x + uptoBulkEntries r
def uptoBulkEntry {H : Type} : Lit × DataW H → Nat
  | (.string bytes, d) => bytes.length + uptoBulk d + 1
  | (_, d) => uptoBulk d + 1
 end
def uptoSmall : (H : Type) → List (DataW H) → Bool := fun _ ds => decide (uptoBulkAll ds ≤ 1048576)
def OpenSpec.upto (s : _root_.Go.ChangeSpec) : _root_.Go.OpenSpec := { _root_.Go.OpenSpec.ofChange s with cond := some uptoSmall }

/-- 'laws.FnExactConfOk', WHERE WHAT IT READS IS OF BULK AT MOST 1048576: true; the input reads as it did. -/
def fnExactConfOkUptoRow : OpenClaim := { program := "ytolloakdibhidaa", sum := "c850ec3423f0d3123d90e5d22e800fb3d773abc4bdd20c6777b1334870678c26", func := "loop.example/g00141/laws.FnExactConfOk", spec := "fnExactConfOk", unfollowed := true, recurses := true, apart := false, narrowed := true }
def FnExactConfOkUptoSaid : Prop := fnExactConfOkUptoRow.holds Try.pinned (OpenSpec.upto fnExactConfOkSpec)

/-- 'laws.FnExactQuorum', WHERE WHAT IT READS IS OF BULK AT MOST 1048576: true; the input reads as it did. -/
def fnExactQuorumUptoRow : OpenClaim := { program := "ytolloakdibhidaa", sum := "c850ec3423f0d3123d90e5d22e800fb3d773abc4bdd20c6777b1334870678c26", func := "loop.example/g00141/laws.FnExactQuorum", spec := "fnExactQuorum", unfollowed := true, recurses := true, apart := false, narrowed := true }
def FnExactQuorumUptoSaid : Prop := fnExactQuorumUptoRow.holds Try.pinned (OpenSpec.upto fnExactQuorumSpec)

/-- 'laws.FnExactPieces', WHERE WHAT IT READS IS OF BULK AT MOST 1048576: true; the input reads as it did. -/
def fnExactPiecesUptoRow : OpenClaim := { program := "ytolloakdibhidaa", sum := "c850ec3423f0d3123d90e5d22e800fb3d773abc4bdd20c6777b1334870678c26", func := "loop.example/g00141/laws.FnExactPieces", spec := "fnExactPieces", named := ["encoding/binary.LittleEndian"], apart := false, narrowed := true }
def FnExactPiecesUptoSaid : Prop := fnExactPiecesUptoRow.holds Try.pinned (OpenSpec.upto fnExactPiecesSpec)

/-- 'laws.FnExactMeet', WHERE WHAT IT READS IS OF BULK AT MOST 1048576: true; the input reads as it did. -/
def fnExactMeetUptoRow : OpenClaim := { program := "ytolloakdibhidaa", sum := "c850ec3423f0d3123d90e5d22e800fb3d773abc4bdd20c6777b1334870678c26", func := "loop.example/g00141/laws.FnExactMeet", spec := "fnExactMeet", unfollowed := true, recurses := true, apart := false, narrowed := true }
def FnExactMeetUptoSaid : Prop := fnExactMeetUptoRow.holds Try.pinned (OpenSpec.upto fnExactMeetSpec)

/-- 'laws.FnQuorums', WHERE WHAT IT READS IS OF BULK AT MOST 1048576: true; the input reads as it did. -/
def fnQuorumsUptoRow : OpenClaim := { program := "ytolloakdibhidaa", sum := "c850ec3423f0d3123d90e5d22e800fb3d773abc4bdd20c6777b1334870678c26", func := "loop.example/g00141/laws.FnQuorums", spec := "fnQuorums", unfollowed := true, recurses := true, apart := false, narrowed := true }
def FnQuorumsUptoSaid : Prop := fnQuorumsUptoRow.holds Try.pinned (OpenSpec.upto fnQuorumsSpec)

/-- 'laws.FnExactWhole', WHERE WHAT IT READS IS OF BULK AT MOST 1048576: true; the input reads as it did. -/
def fnExactWholeUptoRow : OpenClaim := { program := "ytolloakdibhidaa", sum := "c850ec3423f0d3123d90e5d22e800fb3d773abc4bdd20c6777b1334870678c26", func := "loop.example/g00141/laws.FnExactWhole", spec := "fnExactWhole", inPlace := ["internal/abi.NoEscape"], named := ["encoding/binary.LittleEndian"], apart := false, narrowed := true }
def FnExactWholeUptoSaid : Prop := fnExactWholeUptoRow.holds Try.pinned (OpenSpec.upto fnExactWholeSpec)

/-- 'laws.FnExactChanged', WHERE WHAT IT READS IS OF BULK AT MOST 1048576: true; the input reads as it did. -/
def fnExactChangedUptoRow : OpenClaim := { program := "ytolloakdibhidaa", sum := "c850ec3423f0d3123d90e5d22e800fb3d773abc4bdd20c6777b1334870678c26", func := "loop.example/g00141/laws.FnExactChanged", spec := "fnExactChanged", inPlace := ["slices.overlaps[int64]"], unfollowed := true, recurses := true, apart := false, narrowed := true }
def FnExactChangedUptoSaid : Prop := fnExactChangedUptoRow.holds Try.pinned (OpenSpec.upto fnExactChangedSpec)

/-- 'laws.FnPieces', WHERE WHAT IT READS IS OF BULK AT MOST 1048576: true; the input reads as it did. -/
def fnPiecesUptoRow : OpenClaim := { program := "ytolloakdibhidaa", sum := "c850ec3423f0d3123d90e5d22e800fb3d773abc4bdd20c6777b1334870678c26", func := "loop.example/g00141/laws.FnPieces", spec := "fnPieces", inPlace := ["internal/abi.NoEscape"], named := ["encoding/binary.LittleEndian"], apart := false, narrowed := true }
def FnPiecesUptoSaid : Prop := fnPiecesUptoRow.holds Try.pinned (OpenSpec.upto fnPiecesSpec)

end Rows
end Go.Proofs.Ytolloakdibhidaa
