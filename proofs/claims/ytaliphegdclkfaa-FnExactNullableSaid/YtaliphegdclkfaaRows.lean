/-
  No cell of these rows narrows 'for every input' (looked for: loops, veiled, ifaces, maps, wideKeys, modest, calm, conditions, laid).
  DERIVED. THE GIVEN ROWS OF THIS SEAT. 6 by the template 'for every input the law returns true; each argument reads behind the call as it read before'; 0 by the template 'total and deterministic' (their statements: YtaliphegdclkfaaTotals.lean).
  GIVEN WITH THE SEED: the statements are not yours to turn. If you find one false, say at which input.
  Laid BY PROGRAM, IN A SANDBOX (cutbox-rows.mjs): the forced cells as the released guide's own fill.sh prints them over the translation e225d78ec7a845c6… (all of the seat's roots in one cut). By AI agents, Wed Nov 11 2026. No macro, syntax, notation, axiom, sorry.
-/
import Derived.Test.YtaliphegdclkfaaChecked
import GoSem.Claim
import GoSem.ClaimJoined
import GoSem.ClaimMapViews
import Derived.JoinedTies
import Derived.KernelRfl
namespace Go.Proofs.Ytaliphegdclkfaa
/- THE CELL 'sum', in the pinned program and in every row, IS THE sha256 OF THE DUMP (.gsa) THAT YtaliphegdclkfaaProg.lean LOADS. Nothing in Lean hashes anything: it is a label: what it is worth is what the hold of that sum in a sandbox is worth. -/
noncomputable def Try.pinned : Pinned := { name := "ytaliphegdclkfaa", sum := "e225d78ec7a845c6afc38e713739365653a4a1334e87a26096e1b82db96e3d8b", checked := Try.checked }
namespace Rows
def none {H : Type} : Left H := { results := [], args := [] }

/-- 'laws.FnExactParticleOk': WHATEVER THE INPUT: true; the input reads as it did. -/
def fnExactParticleOkSpec : ChangeSpec := { name := "fnExactParticleOk", fn := fun _ => fun
  | [d] => { results := [.lit (.bool true)], args := [d] }
  | _ => none }
def fnExactParticleOkRow : OpenClaim := { program := "ytaliphegdclkfaa", sum := "e225d78ec7a845c6afc38e713739365653a4a1334e87a26096e1b82db96e3d8b", func := "loop.example/g00262/laws.FnExactParticleOk", spec := "fnExactParticleOk", recurses := true, apart := false }
def FnExactParticleOkSaid : Prop := fnExactParticleOkRow.holds Try.pinned (OpenSpec.ofChange fnExactParticleOkSpec)

/-- ITS FALSE NEIGHBOUR: 'it returns false'. Refute it at one input. -/
def fnExactParticleOkWrong : ChangeSpec := { name := "fnExactParticleOk", fn := fun _ => fun
  | [d] => { results := [.lit (.bool false)], args := [d] }
  | _ => none }
def FnExactParticleOkWrongFalsely : Prop := fnExactParticleOkRow.holds Try.pinned (OpenSpec.ofChange fnExactParticleOkWrong)

/-- 'laws.FnExactNullable': WHATEVER THE INPUT: true; the input reads as it did. -/
def fnExactNullableSpec : ChangeSpec := { name := "fnExactNullable", fn := fun _ => fun
  | [d] => { results := [.lit (.bool true)], args := [d] }
  | _ => none }
def fnExactNullableRow : OpenClaim := { program := "ytaliphegdclkfaa", sum := "e225d78ec7a845c6afc38e713739365653a4a1334e87a26096e1b82db96e3d8b", func := "loop.example/g00262/laws.FnExactNullable", spec := "fnExactNullable", recurses := true, apart := false }
def FnExactNullableSaid : Prop := fnExactNullableRow.holds Try.pinned (OpenSpec.ofChange fnExactNullableSpec)

/-- ITS FALSE NEIGHBOUR: 'it returns false'. Refute it at one input. -/
def fnExactNullableWrong : ChangeSpec := { name := "fnExactNullable", fn := fun _ => fun
  | [d] => { results := [.lit (.bool false)], args := [d] }
  | _ => none }
def FnExactNullableWrongFalsely : Prop := fnExactNullableRow.holds Try.pinned (OpenSpec.ofChange fnExactNullableWrong)

/-- 'laws.FnExactSample': WHATEVER THE INPUT: true; the input reads as it did. -/
def fnExactSampleSpec : ChangeSpec := { name := "fnExactSample", fn := fun _ => fun
  | [d] => { results := [.lit (.bool true)], args := [d] }
  | _ => none }
def fnExactSampleRow : OpenClaim := { program := "ytaliphegdclkfaa", sum := "e225d78ec7a845c6afc38e713739365653a4a1334e87a26096e1b82db96e3d8b", func := "loop.example/g00262/laws.FnExactSample", spec := "fnExactSample", recurses := true, apart := false }
def FnExactSampleSaid : Prop := fnExactSampleRow.holds Try.pinned (OpenSpec.ofChange fnExactSampleSpec)

/-- ITS FALSE NEIGHBOUR: 'it returns false'. Refute it at one input. -/
def fnExactSampleWrong : ChangeSpec := { name := "fnExactSample", fn := fun _ => fun
  | [d] => { results := [.lit (.bool false)], args := [d] }
  | _ => none }
def FnExactSampleWrongFalsely : Prop := fnExactSampleRow.holds Try.pinned (OpenSpec.ofChange fnExactSampleWrong)

/-- 'laws.FnExactTurned': WHATEVER THE INPUT: true; the input reads as it did. -/
def fnExactTurnedSpec : ChangeSpec := { name := "fnExactTurned", fn := fun _ => fun
  | [d] => { results := [.lit (.bool true)], args := [d] }
  | _ => none }
def fnExactTurnedRow : OpenClaim := { program := "ytaliphegdclkfaa", sum := "e225d78ec7a845c6afc38e713739365653a4a1334e87a26096e1b82db96e3d8b", func := "loop.example/g00262/laws.FnExactTurned", spec := "fnExactTurned", recurses := true, apart := false }
def FnExactTurnedSaid : Prop := fnExactTurnedRow.holds Try.pinned (OpenSpec.ofChange fnExactTurnedSpec)

/-- ITS FALSE NEIGHBOUR: 'it returns false'. Refute it at one input. -/
def fnExactTurnedWrong : ChangeSpec := { name := "fnExactTurned", fn := fun _ => fun
  | [d] => { results := [.lit (.bool false)], args := [d] }
  | _ => none }
def FnExactTurnedWrongFalsely : Prop := fnExactTurnedRow.holds Try.pinned (OpenSpec.ofChange fnExactTurnedWrong)

/-- 'laws.FnExactModelText': WHATEVER THE INPUT: true; the input reads as it did. -/
def fnExactModelTextSpec : ChangeSpec := { name := "fnExactModelText", fn := fun _ => fun
  | [d] => { results := [.lit (.bool true)], args := [d] }
  | _ => none }
def fnExactModelTextRow : OpenClaim := { program := "ytaliphegdclkfaa", sum := "e225d78ec7a845c6afc38e713739365653a4a1334e87a26096e1b82db96e3d8b", func := "loop.example/g00262/laws.FnExactModelText", spec := "fnExactModelText", inPlace := ["internal/abi.NoEscape", "internal/bytealg.MakeNoZero"], recurses := true, apart := false }
def FnExactModelTextSaid : Prop := fnExactModelTextRow.holds Try.pinned (OpenSpec.ofChange fnExactModelTextSpec)

/-- ITS FALSE NEIGHBOUR: 'it returns false'. Refute it at one input. -/
def fnExactModelTextWrong : ChangeSpec := { name := "fnExactModelText", fn := fun _ => fun
  | [d] => { results := [.lit (.bool false)], args := [d] }
  | _ => none }
def FnExactModelTextWrongFalsely : Prop := fnExactModelTextRow.holds Try.pinned (OpenSpec.ofChange fnExactModelTextWrong)

/-- 'laws.FnExactWhite': WHATEVER THE INPUT: true; the input reads as it did. -/
def fnExactWhiteSpec : ChangeSpec := { name := "fnExactWhite", fn := fun _ => fun
  | [d1, d2] => { results := [.lit (.bool true)], args := [d1, d2] }
  | _ => none }
def fnExactWhiteRow : OpenClaim := { program := "ytaliphegdclkfaa", sum := "e225d78ec7a845c6afc38e713739365653a4a1334e87a26096e1b82db96e3d8b", func := "loop.example/g00262/laws.FnExactWhite", spec := "fnExactWhite", inPlace := ["sync/atomic.LoadUint32", "(*internal/sync.Mutex).Lock", "internal/race.Disable", "sync/atomic.CompareAndSwapInt32", "internal/race.Enable", "internal/race.Acquire", "(*internal/sync.Mutex).lockSlow", "internal/sync.runtime_canSpin", "internal/sync.runtime_doSpin", "internal/sync.throw", "internal/sync.runtime_nanotime", "internal/sync.runtime_SemacquireMutex", "sync/atomic.AddInt32", "(*internal/sync.Mutex).Unlock", "internal/race.ReleaseMerge", "(*internal/sync.Mutex).unlockSlow", "internal/sync.fatal", "internal/sync.runtime_Semrelease", "sync/atomic.StoreUint32", "internal/abi.NoEscape", "internal/bytealg.MakeNoZero"], unfollowed := true, recurses := true, apart := false }
def FnExactWhiteSaid : Prop := fnExactWhiteRow.holds Try.pinned (OpenSpec.ofChange fnExactWhiteSpec)

/-- ITS FALSE NEIGHBOUR: 'it returns false'. Refute it at one input. -/
def fnExactWhiteWrong : ChangeSpec := { name := "fnExactWhite", fn := fun _ => fun
  | [d1, d2] => { results := [.lit (.bool false)], args := [d1, d2] }
  | _ => none }
def FnExactWhiteWrongFalsely : Prop := fnExactWhiteRow.holds Try.pinned (OpenSpec.ofChange fnExactWhiteWrong)

/- THE SECOND FORM. 'bulk': how many values and letters a reading holds, each counted each time it is reached (what is shared counts as often as it is met; a slice's spare places count too). A statement '..UptoSaid' is the law's where the arguments, and the package variables that the reading takes, are together of bulk at most 1048576: NARROWER than '..Said'. Prove '..Said' where nothing that the law and all that it calls make is longer than what came in: it says more and counts as full. Else prove '..UptoSaid'. A law counts once. -/
mutual
def uptoBulk {H : Type} : DataW H → Nat
  | .lit (.string bytes) => bytes.length + 1
  | .lit _ => 1
  | .nil => 1
  | .ptr d => uptoBulk d + 1
  | .slice elems spare => uptoBulkAll elems + uptoBulkAll spare + 1
  | .agg parts => uptoBulkAll parts + 1
  | .iface _ d => uptoBulk d + 1
  | .map entries => uptoBulkEntries entries + 1
  | .held _ => 1
def uptoBulkAll {H : Type} : List (DataW H) → Nat
  | [] => 0
  | d :: r => uptoBulk d + uptoBulkAll r
def uptoBulkEntries {H : Type} : List (Lit × DataW H) → Nat
  | [] => 0
  | x :: r => uptoBulkEntry x + uptoBulkEntries r
def uptoBulkEntry {H : Type} : Lit × DataW H → Nat
  | (.string bytes, d) => bytes.length + uptoBulk d + 1
  | (_, d) => uptoBulk d + 1
 end
def uptoSmall : (H : Type) → List (DataW H) → Bool := fun _ ds => decide (uptoBulkAll ds ≤ 1048576)
def OpenSpec.upto (s : _root_.Go.ChangeSpec) : _root_.Go.OpenSpec := { _root_.Go.OpenSpec.ofChange s with cond := some uptoSmall }

/-- 'laws.FnExactParticleOk', WHERE WHAT IT READS IS OF BULK AT MOST 1048576: true; the input reads as it did. -/
def fnExactParticleOkUptoRow : OpenClaim := { program := "ytaliphegdclkfaa", sum := "e225d78ec7a845c6afc38e713739365653a4a1334e87a26096e1b82db96e3d8b", func := "loop.example/g00262/laws.FnExactParticleOk", spec := "fnExactParticleOk", recurses := true, apart := false, narrowed := true }
def FnExactParticleOkUptoSaid : Prop := fnExactParticleOkUptoRow.holds Try.pinned (OpenSpec.upto fnExactParticleOkSpec)

/-- 'laws.FnExactNullable', WHERE WHAT IT READS IS OF BULK AT MOST 1048576: true; the input reads as it did. -/
def fnExactNullableUptoRow : OpenClaim := { program := "ytaliphegdclkfaa", sum := "e225d78ec7a845c6afc38e713739365653a4a1334e87a26096e1b82db96e3d8b", func := "loop.example/g00262/laws.FnExactNullable", spec := "fnExactNullable", recurses := true, apart := false, narrowed := true }
def FnExactNullableUptoSaid : Prop := fnExactNullableUptoRow.holds Try.pinned (OpenSpec.upto fnExactNullableSpec)

/-- 'laws.FnExactSample', WHERE WHAT IT READS IS OF BULK AT MOST 1048576: true; the input reads as it did. -/
def fnExactSampleUptoRow : OpenClaim := { program := "ytaliphegdclkfaa", sum := "e225d78ec7a845c6afc38e713739365653a4a1334e87a26096e1b82db96e3d8b", func := "loop.example/g00262/laws.FnExactSample", spec := "fnExactSample", recurses := true, apart := false, narrowed := true }
def FnExactSampleUptoSaid : Prop := fnExactSampleUptoRow.holds Try.pinned (OpenSpec.upto fnExactSampleSpec)

/-- 'laws.FnExactTurned', WHERE WHAT IT READS IS OF BULK AT MOST 1048576: true; the input reads as it did. -/
def fnExactTurnedUptoRow : OpenClaim := { program := "ytaliphegdclkfaa", sum := "e225d78ec7a845c6afc38e713739365653a4a1334e87a26096e1b82db96e3d8b", func := "loop.example/g00262/laws.FnExactTurned", spec := "fnExactTurned", recurses := true, apart := false, narrowed := true }
def FnExactTurnedUptoSaid : Prop := fnExactTurnedUptoRow.holds Try.pinned (OpenSpec.upto fnExactTurnedSpec)

/-- 'laws.FnExactModelText', WHERE WHAT IT READS IS OF BULK AT MOST 1048576: true; the input reads as it did. -/
def fnExactModelTextUptoRow : OpenClaim := { program := "ytaliphegdclkfaa", sum := "e225d78ec7a845c6afc38e713739365653a4a1334e87a26096e1b82db96e3d8b", func := "loop.example/g00262/laws.FnExactModelText", spec := "fnExactModelText", inPlace := ["internal/abi.NoEscape", "internal/bytealg.MakeNoZero"], recurses := true, apart := false, narrowed := true }
def FnExactModelTextUptoSaid : Prop := fnExactModelTextUptoRow.holds Try.pinned (OpenSpec.upto fnExactModelTextSpec)

/-- 'laws.FnExactWhite', WHERE WHAT IT READS IS OF BULK AT MOST 1048576: true; the input reads as it did. -/
def fnExactWhiteUptoRow : OpenClaim := { program := "ytaliphegdclkfaa", sum := "e225d78ec7a845c6afc38e713739365653a4a1334e87a26096e1b82db96e3d8b", func := "loop.example/g00262/laws.FnExactWhite", spec := "fnExactWhite", inPlace := ["sync/atomic.LoadUint32", "(*internal/sync.Mutex).Lock", "internal/race.Disable", "sync/atomic.CompareAndSwapInt32", "internal/race.Enable", "internal/race.Acquire", "(*internal/sync.Mutex).lockSlow", "internal/sync.runtime_canSpin", "internal/sync.runtime_doSpin", "internal/sync.throw", "internal/sync.runtime_nanotime", "internal/sync.runtime_SemacquireMutex", "sync/atomic.AddInt32", "(*internal/sync.Mutex).Unlock", "internal/race.ReleaseMerge", "(*internal/sync.Mutex).unlockSlow", "internal/sync.fatal", "internal/sync.runtime_Semrelease", "sync/atomic.StoreUint32", "internal/abi.NoEscape", "internal/bytealg.MakeNoZero"], unfollowed := true, recurses := true, apart := false, narrowed := true }
def FnExactWhiteUptoSaid : Prop := fnExactWhiteUptoRow.holds Try.pinned (OpenSpec.upto fnExactWhiteSpec)

end Rows
end Go.Proofs.Ytaliphegdclkfaa
