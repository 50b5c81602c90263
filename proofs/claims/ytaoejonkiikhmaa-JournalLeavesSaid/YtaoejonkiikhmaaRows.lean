/-
  No cell of these rows narrows 'for every input' (looked for: loops, veiled, ifaces, maps, wideKeys, modest, calm, conditions, laid).
  DERIVED. THE GIVEN ROWS OF THIS SEAT. 12 by the template 'for every input the law returns true; each argument reads behind the call as it read before'; 0 by the template 'total and deterministic' (their statements: YtaoejonkiikhmaaTotals.lean).
  GIVEN WITH THE SEED: the statements are not yours to turn. If you find one false, say at which input.
  Laid BY PROGRAM, IN A SANDBOX (cutbox-rows.mjs): the forced cells as the released guide's own fill.sh prints them over the translation 09d18cf84a0cb70b… (all of the seat's roots in one cut). By AI agents, Wed Nov 11 2026. No macro, syntax, notation, axiom, sorry.
-/
import Derived.Test.YtaoejonkiikhmaaChecked
import GoSem.Claim
import GoSem.ClaimJoined
import GoSem.ClaimMapViews
import Derived.JoinedTies
import Derived.KernelRfl
namespace Go.Proofs.Ytaoejonkiikhmaa
/- THE CELL 'sum', in the pinned program and in every row, IS THE sha256 OF THE DUMP (.gsa) THAT YtaoejonkiikhmaaProg.lean LOADS. Nothing in Lean hashes anything: it is a label: what it is worth is what the hold of that sum in a sandbox is worth. -/
noncomputable def Try.pinned : Pinned := { name := "ytaoejonkiikhmaa", sum := "09d18cf84a0cb70b13154fc2751b1e524adc4d6021a77db8b63be5e0f2e25dc8", checked := Try.checked }
namespace Rows
def none {H : Type} : Left H := { results := [], args := [] }

/-- 'quittancelaw25.NotesBalance': WHATEVER THE INPUT: true; the input reads as it did. -/
def notesBalanceSpec : ChangeSpec := { name := "notesBalance", fn := fun _ => fun
  | [d] => { results := [.lit (.bool true)], args := [d] }
  | _ => none }
def notesBalanceRow : OpenClaim := { program := "ytaoejonkiikhmaa", sum := "09d18cf84a0cb70b13154fc2751b1e524adc4d6021a77db8b63be5e0f2e25dc8", func := "quittance/quittancelaw25.NotesBalance", spec := "notesBalance", inPlace := ["math/bits.Add64"], unfollowed := true, recurses := true, plainKeys := false, apart := false }
def NotesBalanceSaid : Prop := notesBalanceRow.holds Try.pinned (OpenSpec.ofChange notesBalanceSpec)

/-- ITS FALSE NEIGHBOUR: 'it returns false'. Refute it at one input. -/
def notesBalanceWrong : ChangeSpec := { name := "notesBalance", fn := fun _ => fun
  | [d] => { results := [.lit (.bool false)], args := [d] }
  | _ => none }
def NotesBalanceWrongFalsely : Prop := notesBalanceRow.holds Try.pinned (OpenSpec.ofChange notesBalanceWrong)

/-- 'quittancelaw32.AuditTells': WHATEVER THE INPUT: true; the input reads as it did. -/
def auditTellsSpec : ChangeSpec := { name := "auditTells", fn := fun _ => fun
  | [d1, d2, d3] => { results := [.lit (.bool true)], args := [d1, d2, d3] }
  | _ => none }
def auditTellsRow : OpenClaim := { program := "ytaoejonkiikhmaa", sum := "09d18cf84a0cb70b13154fc2751b1e524adc4d6021a77db8b63be5e0f2e25dc8", func := "quittance/quittancelaw32.AuditTells", spec := "auditTells", inPlace := ["math/bits.Add64"], unfollowed := true, recurses := true, plainKeys := false, apart := false }
def AuditTellsSaid : Prop := auditTellsRow.holds Try.pinned (OpenSpec.ofChange auditTellsSpec)

/-- ITS FALSE NEIGHBOUR: 'it returns false'. Refute it at one input. -/
def auditTellsWrong : ChangeSpec := { name := "auditTells", fn := fun _ => fun
  | [d1, d2, d3] => { results := [.lit (.bool false)], args := [d1, d2, d3] }
  | _ => none }
def AuditTellsWrongFalsely : Prop := auditTellsRow.holds Try.pinned (OpenSpec.ofChange auditTellsWrong)

/-- 'quittancelaw26.CashPlans': WHATEVER THE INPUT: true; the input reads as it did. -/
def cashPlansSpec : ChangeSpec := { name := "cashPlans", fn := fun _ => fun
  | [d1, d2, d3] => { results := [.lit (.bool true)], args := [d1, d2, d3] }
  | _ => none }
def cashPlansRow : OpenClaim := { program := "ytaoejonkiikhmaa", sum := "09d18cf84a0cb70b13154fc2751b1e524adc4d6021a77db8b63be5e0f2e25dc8", func := "quittance/quittancelaw26.CashPlans", spec := "cashPlans", inPlace := ["math/bits.Add64"], unfollowed := true, recurses := true, plainKeys := false, apart := false }
def CashPlansSaid : Prop := cashPlansRow.holds Try.pinned (OpenSpec.ofChange cashPlansSpec)

/-- ITS FALSE NEIGHBOUR: 'it returns false'. Refute it at one input. -/
def cashPlansWrong : ChangeSpec := { name := "cashPlans", fn := fun _ => fun
  | [d1, d2, d3] => { results := [.lit (.bool false)], args := [d1, d2, d3] }
  | _ => none }
def CashPlansWrongFalsely : Prop := cashPlansRow.holds Try.pinned (OpenSpec.ofChange cashPlansWrong)

/-- 'quittancelaw26.CashAll': WHATEVER THE INPUT: true; the input reads as it did. -/
def cashAllSpec : ChangeSpec := { name := "cashAll", fn := fun _ => fun
  | [d1, d2] => { results := [.lit (.bool true)], args := [d1, d2] }
  | _ => none }
def cashAllRow : OpenClaim := { program := "ytaoejonkiikhmaa", sum := "09d18cf84a0cb70b13154fc2751b1e524adc4d6021a77db8b63be5e0f2e25dc8", func := "quittance/quittancelaw26.CashAll", spec := "cashAll", inPlace := ["math/bits.Add64"], unfollowed := true, recurses := true, plainKeys := false, apart := false }
def CashAllSaid : Prop := cashAllRow.holds Try.pinned (OpenSpec.ofChange cashAllSpec)

/-- ITS FALSE NEIGHBOUR: 'it returns false'. Refute it at one input. -/
def cashAllWrong : ChangeSpec := { name := "cashAll", fn := fun _ => fun
  | [d1, d2] => { results := [.lit (.bool false)], args := [d1, d2] }
  | _ => none }
def CashAllWrongFalsely : Prop := cashAllRow.holds Try.pinned (OpenSpec.ofChange cashAllWrong)

/-- 'quittancelaw26.CashUndo': WHATEVER THE INPUT: true; the input reads as it did. -/
def cashUndoSpec : ChangeSpec := { name := "cashUndo", fn := fun _ => fun
  | [d] => { results := [.lit (.bool true)], args := [d] }
  | _ => none }
def cashUndoRow : OpenClaim := { program := "ytaoejonkiikhmaa", sum := "09d18cf84a0cb70b13154fc2751b1e524adc4d6021a77db8b63be5e0f2e25dc8", func := "quittance/quittancelaw26.CashUndo", spec := "cashUndo", inPlace := ["math/bits.Add64"], unfollowed := true, recurses := true, plainKeys := false, apart := false }
def CashUndoSaid : Prop := cashUndoRow.holds Try.pinned (OpenSpec.ofChange cashUndoSpec)

/-- ITS FALSE NEIGHBOUR: 'it returns false'. Refute it at one input. -/
def cashUndoWrong : ChangeSpec := { name := "cashUndo", fn := fun _ => fun
  | [d] => { results := [.lit (.bool false)], args := [d] }
  | _ => none }
def CashUndoWrongFalsely : Prop := cashUndoRow.holds Try.pinned (OpenSpec.ofChange cashUndoWrong)

/-- 'quittancelaw26.CashTells': WHATEVER THE INPUT: true; the input reads as it did. -/
def cashTellsSpec : ChangeSpec := { name := "cashTells", fn := fun _ => fun
  | [d] => { results := [.lit (.bool true)], args := [d] }
  | _ => none }
def cashTellsRow : OpenClaim := { program := "ytaoejonkiikhmaa", sum := "09d18cf84a0cb70b13154fc2751b1e524adc4d6021a77db8b63be5e0f2e25dc8", func := "quittance/quittancelaw26.CashTells", spec := "cashTells", inPlace := ["math/bits.Add64"], unfollowed := true, recurses := true, plainKeys := false, apart := false }
def CashTellsSaid : Prop := cashTellsRow.holds Try.pinned (OpenSpec.ofChange cashTellsSpec)

/-- ITS FALSE NEIGHBOUR: 'it returns false'. Refute it at one input. -/
def cashTellsWrong : ChangeSpec := { name := "cashTells", fn := fun _ => fun
  | [d] => { results := [.lit (.bool false)], args := [d] }
  | _ => none }
def CashTellsWrongFalsely : Prop := cashTellsRow.holds Try.pinned (OpenSpec.ofChange cashTellsWrong)

/-- 'quittancelaw26.CashWhole': WHATEVER THE INPUT: true; the input reads as it did. -/
def cashWholeSpec : ChangeSpec := { name := "cashWhole", fn := fun _ => fun
  | [d1, d2, d3] => { results := [.lit (.bool true)], args := [d1, d2, d3] }
  | _ => none }
def cashWholeRow : OpenClaim := { program := "ytaoejonkiikhmaa", sum := "09d18cf84a0cb70b13154fc2751b1e524adc4d6021a77db8b63be5e0f2e25dc8", func := "quittance/quittancelaw26.CashWhole", spec := "cashWhole", inPlace := ["math/bits.Add64"], unfollowed := true, recurses := true, plainKeys := false, apart := false }
def CashWholeSaid : Prop := cashWholeRow.holds Try.pinned (OpenSpec.ofChange cashWholeSpec)

/-- ITS FALSE NEIGHBOUR: 'it returns false'. Refute it at one input. -/
def cashWholeWrong : ChangeSpec := { name := "cashWhole", fn := fun _ => fun
  | [d1, d2, d3] => { results := [.lit (.bool false)], args := [d1, d2, d3] }
  | _ => none }
def CashWholeWrongFalsely : Prop := cashWholeRow.holds Try.pinned (OpenSpec.ofChange cashWholeWrong)

/-- 'quittancelaw20.JournalTidies': WHATEVER THE INPUT: true; the input reads as it did. -/
def journalTidiesSpec : ChangeSpec := { name := "journalTidies", fn := fun _ => fun
  | [d] => { results := [.lit (.bool true)], args := [d] }
  | _ => none }
def journalTidiesRow : OpenClaim := { program := "ytaoejonkiikhmaa", sum := "09d18cf84a0cb70b13154fc2751b1e524adc4d6021a77db8b63be5e0f2e25dc8", func := "quittance/quittancelaw20.JournalTidies", spec := "journalTidies", inPlace := ["math/bits.Add64"], unfollowed := true, recurses := true, plainKeys := false, apart := false }
def JournalTidiesSaid : Prop := journalTidiesRow.holds Try.pinned (OpenSpec.ofChange journalTidiesSpec)

/-- ITS FALSE NEIGHBOUR: 'it returns false'. Refute it at one input. -/
def journalTidiesWrong : ChangeSpec := { name := "journalTidies", fn := fun _ => fun
  | [d] => { results := [.lit (.bool false)], args := [d] }
  | _ => none }
def JournalTidiesWrongFalsely : Prop := journalTidiesRow.holds Try.pinned (OpenSpec.ofChange journalTidiesWrong)

/-- 'quittancelaw20.JournalOrder': WHATEVER THE INPUT: true; the input reads as it did. -/
def journalOrderSpec : ChangeSpec := { name := "journalOrder", fn := fun _ => fun
  | [d1, d2] => { results := [.lit (.bool true)], args := [d1, d2] }
  | _ => none }
def journalOrderRow : OpenClaim := { program := "ytaoejonkiikhmaa", sum := "09d18cf84a0cb70b13154fc2751b1e524adc4d6021a77db8b63be5e0f2e25dc8", func := "quittance/quittancelaw20.JournalOrder", spec := "journalOrder", inPlace := ["math/bits.Add64"], unfollowed := true, recurses := true, plainKeys := false, apart := false }
def JournalOrderSaid : Prop := journalOrderRow.holds Try.pinned (OpenSpec.ofChange journalOrderSpec)

/-- ITS FALSE NEIGHBOUR: 'it returns false'. Refute it at one input. -/
def journalOrderWrong : ChangeSpec := { name := "journalOrder", fn := fun _ => fun
  | [d1, d2] => { results := [.lit (.bool false)], args := [d1, d2] }
  | _ => none }
def JournalOrderWrongFalsely : Prop := journalOrderRow.holds Try.pinned (OpenSpec.ofChange journalOrderWrong)

/-- 'quittancelaw20.JournalLeaves': WHATEVER THE INPUT: true; the input reads as it did. -/
def journalLeavesSpec : ChangeSpec := { name := "journalLeaves", fn := fun _ => fun
  | [d1, d2] => { results := [.lit (.bool true)], args := [d1, d2] }
  | _ => none }
def journalLeavesRow : OpenClaim := { program := "ytaoejonkiikhmaa", sum := "09d18cf84a0cb70b13154fc2751b1e524adc4d6021a77db8b63be5e0f2e25dc8", func := "quittance/quittancelaw20.JournalLeaves", spec := "journalLeaves", inPlace := ["math/bits.Add64"], unfollowed := true, recurses := true, plainKeys := false, apart := false }
def JournalLeavesSaid : Prop := journalLeavesRow.holds Try.pinned (OpenSpec.ofChange journalLeavesSpec)

/-- ITS FALSE NEIGHBOUR: 'it returns false'. Refute it at one input. -/
def journalLeavesWrong : ChangeSpec := { name := "journalLeaves", fn := fun _ => fun
  | [d1, d2] => { results := [.lit (.bool false)], args := [d1, d2] }
  | _ => none }
def JournalLeavesWrongFalsely : Prop := journalLeavesRow.holds Try.pinned (OpenSpec.ofChange journalLeavesWrong)

/-- 'quittancelaw20.JournalTurns': WHATEVER THE INPUT: true; the input reads as it did. -/
def journalTurnsSpec : ChangeSpec := { name := "journalTurns", fn := fun _ => fun
  | [d1, d2] => { results := [.lit (.bool true)], args := [d1, d2] }
  | _ => none }
def journalTurnsRow : OpenClaim := { program := "ytaoejonkiikhmaa", sum := "09d18cf84a0cb70b13154fc2751b1e524adc4d6021a77db8b63be5e0f2e25dc8", func := "quittance/quittancelaw20.JournalTurns", spec := "journalTurns", inPlace := ["math/bits.Add64"], unfollowed := true, recurses := true, plainKeys := false, apart := false }
def JournalTurnsSaid : Prop := journalTurnsRow.holds Try.pinned (OpenSpec.ofChange journalTurnsSpec)

/-- ITS FALSE NEIGHBOUR: 'it returns false'. Refute it at one input. -/
def journalTurnsWrong : ChangeSpec := { name := "journalTurns", fn := fun _ => fun
  | [d1, d2] => { results := [.lit (.bool false)], args := [d1, d2] }
  | _ => none }
def JournalTurnsWrongFalsely : Prop := journalTurnsRow.holds Try.pinned (OpenSpec.ofChange journalTurnsWrong)

/-- 'quittancelaw20.JournalBytes': WHATEVER THE INPUT: true; the input reads as it did. -/
def journalBytesSpec : ChangeSpec := { name := "journalBytes", fn := fun _ => fun
  | [d1, d2] => { results := [.lit (.bool true)], args := [d1, d2] }
  | _ => none }
def journalBytesRow : OpenClaim := { program := "ytaoejonkiikhmaa", sum := "09d18cf84a0cb70b13154fc2751b1e524adc4d6021a77db8b63be5e0f2e25dc8", func := "quittance/quittancelaw20.JournalBytes", spec := "journalBytes", inPlace := ["math/bits.Add64"], unfollowed := true, recurses := true, plainKeys := false, apart := false }
def JournalBytesSaid : Prop := journalBytesRow.holds Try.pinned (OpenSpec.ofChange journalBytesSpec)

/-- ITS FALSE NEIGHBOUR: 'it returns false'. Refute it at one input. -/
def journalBytesWrong : ChangeSpec := { name := "journalBytes", fn := fun _ => fun
  | [d1, d2] => { results := [.lit (.bool false)], args := [d1, d2] }
  | _ => none }
def JournalBytesWrongFalsely : Prop := journalBytesRow.holds Try.pinned (OpenSpec.ofChange journalBytesWrong)

/- THE SECOND FORM. 'bulk': how many values and letters a reading holds, each counted each time it is reached (what is shared counts as often as it is met; a slice's spare places count too). A statement '..UptoSaid' is the law's where the arguments, and the package variables that the reading takes, are together of bulk at most 1048576: NARROWER than '..Said'. Prove '..Said' where nothing that the law and all that it calls make is longer than what came in: it says more and counts as full. Else prove '..UptoSaid'. A law counts once. -/
mutual
def uptoBulk {H : Type} : DataW H → Nat
  | .lit (.string bytes) => bytes.length + 1
  | .lit _ => 1
  | .nil => 1
  | .ptr d => uptoBulk d + 1
  | .slice elems spare => uptoBulkAll elems + uptoBulkAll spare + 1
  | .agg parts => uptoBulkAll parts + 1
  | .iface _ d => uptoBulk d + 1
  | .map entries => uptoBulkEntries entries + 1
  | .held _ => 1
def uptoBulkAll {H : Type} : List (DataW H) → Nat
  | [] => 0
  | d :: r => uptoBulk d + uptoBulkAll r
def uptoBulkEntries {H : Type} : List (Lit × DataW H) → Nat
  | [] => 0
  | x :: r => uptoBulkEntry x + uptoBulkEntries r
def uptoBulkEntry {H : Type} : Lit × DataW H → Nat
  | (.string bytes, d) => bytes.length + uptoBulk d + 1
  | (_, d) => uptoBulk d + 1
 end
def uptoSmall : (H : Type) → List (DataW H) → Bool := fun _ ds => decide (uptoBulkAll ds ≤ 1048576)
def OpenSpec.upto (s : _root_.Go.ChangeSpec) : _root_.Go.OpenSpec := { _root_.Go.OpenSpec.ofChange s with cond := some uptoSmall }

/-- 'quittancelaw25.NotesBalance', WHERE WHAT IT READS IS OF BULK AT MOST 1048576: true; the input reads as it did. -/
def notesBalanceUptoRow : OpenClaim := { program := "ytaoejonkiikhmaa", sum := "09d18cf84a0cb70b13154fc2751b1e524adc4d6021a77db8b63be5e0f2e25dc8", func := "quittance/quittancelaw25.NotesBalance", spec := "notesBalance", inPlace := ["math/bits.Add64"], unfollowed := true, recurses := true, plainKeys := false, apart := false, narrowed := true }
def NotesBalanceUptoSaid : Prop := notesBalanceUptoRow.holds Try.pinned (OpenSpec.upto notesBalanceSpec)

/-- 'quittancelaw32.AuditTells', WHERE WHAT IT READS IS OF BULK AT MOST 1048576: true; the input reads as it did. -/
def auditTellsUptoRow : OpenClaim := { program := "ytaoejonkiikhmaa", sum := "09d18cf84a0cb70b13154fc2751b1e524adc4d6021a77db8b63be5e0f2e25dc8", func := "quittance/quittancelaw32.AuditTells", spec := "auditTells", inPlace := ["math/bits.Add64"], unfollowed := true, recurses := true, plainKeys := false, apart := false, narrowed := true }
def AuditTellsUptoSaid : Prop := auditTellsUptoRow.holds Try.pinned (OpenSpec.upto auditTellsSpec)

/-- 'quittancelaw26.CashPlans', WHERE WHAT IT READS IS OF BULK AT MOST 1048576: true; the input reads as it did. -/
def cashPlansUptoRow : OpenClaim := { program := "ytaoejonkiikhmaa", sum := "09d18cf84a0cb70b13154fc2751b1e524adc4d6021a77db8b63be5e0f2e25dc8", func := "quittance/quittancelaw26.CashPlans", spec := "cashPlans", inPlace := ["math/bits.Add64"], unfollowed := true, recurses := true, plainKeys := false, apart := false, narrowed := true }
def CashPlansUptoSaid : Prop := cashPlansUptoRow.holds Try.pinned (OpenSpec.upto cashPlansSpec)

/-- 'quittancelaw26.CashAll', WHERE WHAT IT READS IS OF BULK AT MOST 1048576: true; the input reads as it did. -/
def cashAllUptoRow : OpenClaim := { program := "ytaoejonkiikhmaa", sum := "09d18cf84a0cb70b13154fc2751b1e524adc4d6021a77db8b63be5e0f2e25dc8", func := "quittance/quittancelaw26.CashAll", spec := "cashAll", inPlace := ["math/bits.Add64"], unfollowed := true, recurses := true, plainKeys := false, apart := false, narrowed := true }
def CashAllUptoSaid : Prop := cashAllUptoRow.holds Try.pinned (OpenSpec.upto cashAllSpec)

/-- 'quittancelaw26.CashUndo', WHERE WHAT IT READS IS OF BULK AT MOST 1048576: true; the input reads as it did. -/
def cashUndoUptoRow : OpenClaim := { program := "ytaoejonkiikhmaa", sum := "09d18cf84a0cb70b13154fc2751b1e524adc4d6021a77db8b63be5e0f2e25dc8", func := "quittance/quittancelaw26.CashUndo", spec := "cashUndo", inPlace := ["math/bits.Add64"], unfollowed := true, recurses := true, plainKeys := false, apart := false, narrowed := true }
def CashUndoUptoSaid : Prop := cashUndoUptoRow.holds Try.pinned (OpenSpec.upto cashUndoSpec)

/-- 'quittancelaw26.CashTells', WHERE WHAT IT READS IS OF BULK AT MOST 1048576: true; the input reads as it did. -/
def cashTellsUptoRow : OpenClaim := { program := "ytaoejonkiikhmaa", sum := "09d18cf84a0cb70b13154fc2751b1e524adc4d6021a77db8b63be5e0f2e25dc8", func := "quittance/quittancelaw26.CashTells", spec := "cashTells", inPlace := ["math/bits.Add64"], unfollowed := true, recurses := true, plainKeys := false, apart := false, narrowed := true }
def CashTellsUptoSaid : Prop := cashTellsUptoRow.holds Try.pinned (OpenSpec.upto cashTellsSpec)

/-- 'quittancelaw26.CashWhole', WHERE WHAT IT READS IS OF BULK AT MOST 1048576: true; the input reads as it did. -/
def cashWholeUptoRow : OpenClaim := { program := "ytaoejonkiikhmaa", sum := "09d18cf84a0cb70b13154fc2751b1e524adc4d6021a77db8b63be5e0f2e25dc8", func := "quittance/quittancelaw26.CashWhole", spec := "cashWhole", inPlace := ["math/bits.Add64"], unfollowed := true, recurses := true, plainKeys := false, apart := false, narrowed := true }
def CashWholeUptoSaid : Prop := cashWholeUptoRow.holds Try.pinned (OpenSpec.upto cashWholeSpec)

/-- 'quittancelaw20.JournalTidies', WHERE WHAT IT READS IS OF BULK AT MOST 1048576: true; the input reads as it did. -/
def journalTidiesUptoRow : OpenClaim := { program := "ytaoejonkiikhmaa", sum := "09d18cf84a0cb70b13154fc2751b1e524adc4d6021a77db8b63be5e0f2e25dc8", func := "quittance/quittancelaw20.JournalTidies", spec := "journalTidies", inPlace := ["math/bits.Add64"], unfollowed := true, recurses := true, plainKeys := false, apart := false, narrowed := true }
def JournalTidiesUptoSaid : Prop := journalTidiesUptoRow.holds Try.pinned (OpenSpec.upto journalTidiesSpec)

/-- 'quittancelaw20.JournalOrder', WHERE WHAT IT READS IS OF BULK AT MOST 1048576: true; the input reads as it did. -/
def journalOrderUptoRow : OpenClaim := { program := "ytaoejonkiikhmaa", sum := "09d18cf84a0cb70b13154fc2751b1e524adc4d6021a77db8b63be5e0f2e25dc8", func := "quittance/quittancelaw20.JournalOrder", spec := "journalOrder", inPlace := ["math/bits.Add64"], unfollowed := true, recurses := true, plainKeys := false, apart := false, narrowed := true }
def JournalOrderUptoSaid : Prop := journalOrderUptoRow.holds Try.pinned (OpenSpec.upto journalOrderSpec)

/-- 'quittancelaw20.JournalLeaves', WHERE WHAT IT READS IS OF BULK AT MOST 1048576: true; the input reads as it did. -/
def journalLeavesUptoRow : OpenClaim := { program := "ytaoejonkiikhmaa", sum := "09d18cf84a0cb70b13154fc2751b1e524adc4d6021a77db8b63be5e0f2e25dc8", func := "quittance/quittancelaw20.JournalLeaves", spec := "journalLeaves", inPlace := ["math/bits.Add64"], unfollowed := true, recurses := true, plainKeys := false, apart := false, narrowed := true }
def JournalLeavesUptoSaid : Prop := journalLeavesUptoRow.holds Try.pinned (OpenSpec.upto journalLeavesSpec)

/-- 'quittancelaw20.JournalTurns', WHERE WHAT IT READS IS OF BULK AT MOST 1048576: true; the input reads as it did. -/
def journalTurnsUptoRow : OpenClaim := { program := "ytaoejonkiikhmaa", sum := "09d18cf84a0cb70b13154fc2751b1e524adc4d6021a77db8b63be5e0f2e25dc8", func := "quittance/quittancelaw20.JournalTurns", spec := "journalTurns", inPlace := ["math/bits.Add64"], unfollowed := true, recurses := true, plainKeys := false, apart := false, narrowed := true }
def JournalTurnsUptoSaid : Prop := journalTurnsUptoRow.holds Try.pinned (OpenSpec.upto journalTurnsSpec)

/-- 'quittancelaw20.JournalBytes', WHERE WHAT IT READS IS OF BULK AT MOST 1048576: true; the input reads as it did. -/
def journalBytesUptoRow : OpenClaim := { program := "ytaoejonkiikhmaa", sum := "09d18cf84a0cb70b13154fc2751b1e524adc4d6021a77db8b63be5e0f2e25dc8", func := "quittance/quittancelaw20.JournalBytes", spec := "journalBytes", inPlace := ["math/bits.Add64"], unfollowed := true, recurses := true, plainKeys := false, apart := false, narrowed := true }
def JournalBytesUptoSaid : Prop := journalBytesUptoRow.holds Try.pinned (OpenSpec.upto journalBytesSpec)

end Rows
end Go.Proofs.Ytaoejonkiikhmaa
