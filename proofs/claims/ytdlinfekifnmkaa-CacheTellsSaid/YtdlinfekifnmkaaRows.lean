/-
  No cell of these rows narrows 'for every input' (looked for: loops, veiled, ifaces, maps, wideKeys, modest, calm, conditions, laid).
  DERIVED. THE GIVEN ROWS OF THIS SEAT. 34 by the template 'for every input the law returns true; each argument reads behind the call as it read before'; 0 by the template 'total and deterministic' (their statements: YtdlinfekifnmkaaTotals.lean).
  GIVEN WITH THE SEED: the statements are not yours to turn. If you find one false, say at which input.
  Laid BY PROGRAM, IN A SANDBOX (cutbox-rows.mjs): the forced cells as the released guide's own fill.sh prints them over the translation 71c492c443b4441d… (all of the seat's roots in one cut). By AI agents, Wed Nov 11 2026. No macro, syntax, notation, axiom, sorry.
-/
import Derived.Test.YtdlinfekifnmkaaChecked
import GoSem.Claim
import GoSem.ClaimJoined
import GoSem.ClaimMapViews
import Derived.JoinedTies
import Derived.KernelRfl
namespace Go.Proofs.Ytdlinfekifnmkaa
/- THE CELL 'sum', in the pinned program and in every row, IS THE sha256 OF THE DUMP (.gsa) THAT YtdlinfekifnmkaaProg.lean LOADS. Nothing in Lean hashes anything: it is a label: what it is worth is what the hold of that sum in a sandbox is worth. -/
noncomputable def Try.pinned : Pinned := { name := "ytdlinfekifnmkaa", sum := "71c492c443b4441d3a3e3050ab5617b362641b8b53b19d8df52a65369371925f", checked := Try.checked }
namespace Rows
def none {H : Type} : Left H := { results := [], args := [] }

/-- 'collatorlaw09.SumsTells': WHATEVER THE INPUT: true; the input reads as it did. -/
def sumsTellsSpec : ChangeSpec := { name := "sumsTells", fn := fun _ => fun
  | [d1, d2, d3, d4] => { results := [.lit (.bool true)], args := [d1, d2, d3, d4] }
  | _ => none }
def sumsTellsRow : OpenClaim := { program := "ytdlinfekifnmkaa", sum := "71c492c443b4441d3a3e3050ab5617b362641b8b53b19d8df52a65369371925f", func := "collator/collatorlaw09.SumsTells", spec := "sumsTells", plainKeys := false, apart := false }
def SumsTellsSaid : Prop := sumsTellsRow.holds Try.pinned (OpenSpec.ofChange sumsTellsSpec)

/-- ITS FALSE NEIGHBOUR: 'it returns false'. Refute it at one input. -/
def sumsTellsWrong : ChangeSpec := { name := "sumsTells", fn := fun _ => fun
  | [d1, d2, d3, d4] => { results := [.lit (.bool false)], args := [d1, d2, d3, d4] }
  | _ => none }
def SumsTellsWrongFalsely : Prop := sumsTellsRow.holds Try.pinned (OpenSpec.ofChange sumsTellsWrong)

/-- 'collatorlaw09.SumsWidth': WHATEVER THE INPUT: true; the input reads as it did. -/
def sumsWidthSpec : ChangeSpec := { name := "sumsWidth", fn := fun _ => fun
  | [d1, d2, d3, d4] => { results := [.lit (.bool true)], args := [d1, d2, d3, d4] }
  | _ => none }
def sumsWidthRow : OpenClaim := { program := "ytdlinfekifnmkaa", sum := "71c492c443b4441d3a3e3050ab5617b362641b8b53b19d8df52a65369371925f", func := "collator/collatorlaw09.SumsWidth", spec := "sumsWidth", plainKeys := false, apart := false }
def SumsWidthSaid : Prop := sumsWidthRow.holds Try.pinned (OpenSpec.ofChange sumsWidthSpec)

/-- ITS FALSE NEIGHBOUR: 'it returns false'. Refute it at one input. -/
def sumsWidthWrong : ChangeSpec := { name := "sumsWidth", fn := fun _ => fun
  | [d1, d2, d3, d4] => { results := [.lit (.bool false)], args := [d1, d2, d3, d4] }
  | _ => none }
def SumsWidthWrongFalsely : Prop := sumsWidthRow.holds Try.pinned (OpenSpec.ofChange sumsWidthWrong)

/-- 'collatorlaw09.SumsParts': WHATEVER THE INPUT: true; the input reads as it did. -/
def sumsPartsSpec : ChangeSpec := { name := "sumsParts", fn := fun _ => fun
  | [d1, d2, d3, d4, d5] => { results := [.lit (.bool true)], args := [d1, d2, d3, d4, d5] }
  | _ => none }
def sumsPartsRow : OpenClaim := { program := "ytdlinfekifnmkaa", sum := "71c492c443b4441d3a3e3050ab5617b362641b8b53b19d8df52a65369371925f", func := "collator/collatorlaw09.SumsParts", spec := "sumsParts", plainKeys := false, apart := false }
def SumsPartsSaid : Prop := sumsPartsRow.holds Try.pinned (OpenSpec.ofChange sumsPartsSpec)

/-- ITS FALSE NEIGHBOUR: 'it returns false'. Refute it at one input. -/
def sumsPartsWrong : ChangeSpec := { name := "sumsParts", fn := fun _ => fun
  | [d1, d2, d3, d4, d5] => { results := [.lit (.bool false)], args := [d1, d2, d3, d4, d5] }
  | _ => none }
def SumsPartsWrongFalsely : Prop := sumsPartsRow.holds Try.pinned (OpenSpec.ofChange sumsPartsWrong)

/-- 'collatorlaw09.SumsOne': WHATEVER THE INPUT: true; the input reads as it did. -/
def sumsOneSpec : ChangeSpec := { name := "sumsOne", fn := fun _ => fun
  | [d1, d2, d3, d4] => { results := [.lit (.bool true)], args := [d1, d2, d3, d4] }
  | _ => none }
def sumsOneRow : OpenClaim := { program := "ytdlinfekifnmkaa", sum := "71c492c443b4441d3a3e3050ab5617b362641b8b53b19d8df52a65369371925f", func := "collator/collatorlaw09.SumsOne", spec := "sumsOne", plainKeys := false, apart := false }
def SumsOneSaid : Prop := sumsOneRow.holds Try.pinned (OpenSpec.ofChange sumsOneSpec)

/-- ITS FALSE NEIGHBOUR: 'it returns false'. Refute it at one input. -/
def sumsOneWrong : ChangeSpec := { name := "sumsOne", fn := fun _ => fun
  | [d1, d2, d3, d4] => { results := [.lit (.bool false)], args := [d1, d2, d3, d4] }
  | _ => none }
def SumsOneWrongFalsely : Prop := sumsOneRow.holds Try.pinned (OpenSpec.ofChange sumsOneWrong)

/-- 'collatorlaw09.SumsBoth': WHATEVER THE INPUT: true; the input reads as it did. -/
def sumsBothSpec : ChangeSpec := { name := "sumsBoth", fn := fun _ => fun
  | [d1, d2] => { results := [.lit (.bool true)], args := [d1, d2] }
  | _ => none }
def sumsBothRow : OpenClaim := { program := "ytdlinfekifnmkaa", sum := "71c492c443b4441d3a3e3050ab5617b362641b8b53b19d8df52a65369371925f", func := "collator/collatorlaw09.SumsBoth", spec := "sumsBoth", plainKeys := false, apart := false }
def SumsBothSaid : Prop := sumsBothRow.holds Try.pinned (OpenSpec.ofChange sumsBothSpec)

/-- ITS FALSE NEIGHBOUR: 'it returns false'. Refute it at one input. -/
def sumsBothWrong : ChangeSpec := { name := "sumsBoth", fn := fun _ => fun
  | [d1, d2] => { results := [.lit (.bool false)], args := [d1, d2] }
  | _ => none }
def SumsBothWrongFalsely : Prop := sumsBothRow.holds Try.pinned (OpenSpec.ofChange sumsBothWrong)

/-- 'collatorlaw13.LruTells': WHATEVER THE INPUT: true; the input reads as it did. -/
def lruTellsSpec : ChangeSpec := { name := "lruTells", fn := fun _ => fun
  | [d1, d2, d3, d4, d5] => { results := [.lit (.bool true)], args := [d1, d2, d3, d4, d5] }
  | _ => none }
def lruTellsRow : OpenClaim := { program := "ytdlinfekifnmkaa", sum := "71c492c443b4441d3a3e3050ab5617b362641b8b53b19d8df52a65369371925f", func := "collator/collatorlaw13.LruTells", spec := "lruTells", unfollowed := true, recurses := true, plainKeys := false, apart := false }
def LruTellsSaid : Prop := lruTellsRow.holds Try.pinned (OpenSpec.ofChange lruTellsSpec)

/-- ITS FALSE NEIGHBOUR: 'it returns false'. Refute it at one input. -/
def lruTellsWrong : ChangeSpec := { name := "lruTells", fn := fun _ => fun
  | [d1, d2, d3, d4, d5] => { results := [.lit (.bool false)], args := [d1, d2, d3, d4, d5] }
  | _ => none }
def LruTellsWrongFalsely : Prop := lruTellsRow.holds Try.pinned (OpenSpec.ofChange lruTellsWrong)

/-- 'collatorlaw13.LruLast': WHATEVER THE INPUT: true; the input reads as it did. -/
def lruLastSpec : ChangeSpec := { name := "lruLast", fn := fun _ => fun
  | [d1, d2, d3] => { results := [.lit (.bool true)], args := [d1, d2, d3] }
  | _ => none }
def lruLastRow : OpenClaim := { program := "ytdlinfekifnmkaa", sum := "71c492c443b4441d3a3e3050ab5617b362641b8b53b19d8df52a65369371925f", func := "collator/collatorlaw13.LruLast", spec := "lruLast", unfollowed := true, recurses := true, plainKeys := false, apart := false }
def LruLastSaid : Prop := lruLastRow.holds Try.pinned (OpenSpec.ofChange lruLastSpec)

/-- ITS FALSE NEIGHBOUR: 'it returns false'. Refute it at one input. -/
def lruLastWrong : ChangeSpec := { name := "lruLast", fn := fun _ => fun
  | [d1, d2, d3] => { results := [.lit (.bool false)], args := [d1, d2, d3] }
  | _ => none }
def LruLastWrongFalsely : Prop := lruLastRow.holds Try.pinned (OpenSpec.ofChange lruLastWrong)

/-- 'collatorlaw13.LruOrder': WHATEVER THE INPUT: true; the input reads as it did. -/
def lruOrderSpec : ChangeSpec := { name := "lruOrder", fn := fun _ => fun
  | [d1, d2, d3] => { results := [.lit (.bool true)], args := [d1, d2, d3] }
  | _ => none }
def lruOrderRow : OpenClaim := { program := "ytdlinfekifnmkaa", sum := "71c492c443b4441d3a3e3050ab5617b362641b8b53b19d8df52a65369371925f", func := "collator/collatorlaw13.LruOrder", spec := "lruOrder", unfollowed := true, recurses := true, plainKeys := false, apart := false }
def LruOrderSaid : Prop := lruOrderRow.holds Try.pinned (OpenSpec.ofChange lruOrderSpec)

/-- ITS FALSE NEIGHBOUR: 'it returns false'. Refute it at one input. -/
def lruOrderWrong : ChangeSpec := { name := "lruOrder", fn := fun _ => fun
  | [d1, d2, d3] => { results := [.lit (.bool false)], args := [d1, d2, d3] }
  | _ => none }
def LruOrderWrongFalsely : Prop := lruOrderRow.holds Try.pinned (OpenSpec.ofChange lruOrderWrong)

/-- 'collatorlaw13.LruKeeps': WHATEVER THE INPUT: true; the input reads as it did. -/
def lruKeepsSpec : ChangeSpec := { name := "lruKeeps", fn := fun _ => fun
  | [d1, d2, d3] => { results := [.lit (.bool true)], args := [d1, d2, d3] }
  | _ => none }
def lruKeepsRow : OpenClaim := { program := "ytdlinfekifnmkaa", sum := "71c492c443b4441d3a3e3050ab5617b362641b8b53b19d8df52a65369371925f", func := "collator/collatorlaw13.LruKeeps", spec := "lruKeeps", unfollowed := true, recurses := true, plainKeys := false, apart := false }
def LruKeepsSaid : Prop := lruKeepsRow.holds Try.pinned (OpenSpec.ofChange lruKeepsSpec)

/-- ITS FALSE NEIGHBOUR: 'it returns false'. Refute it at one input. -/
def lruKeepsWrong : ChangeSpec := { name := "lruKeeps", fn := fun _ => fun
  | [d1, d2, d3] => { results := [.lit (.bool false)], args := [d1, d2, d3] }
  | _ => none }
def LruKeepsWrongFalsely : Prop := lruKeepsRow.holds Try.pinned (OpenSpec.ofChange lruKeepsWrong)

/-- 'collatorlaw13.LruAgain': WHATEVER THE INPUT: true; the input reads as it did. -/
def lruAgainSpec : ChangeSpec := { name := "lruAgain", fn := fun _ => fun
  | [d1, d2, d3] => { results := [.lit (.bool true)], args := [d1, d2, d3] }
  | _ => none }
def lruAgainRow : OpenClaim := { program := "ytdlinfekifnmkaa", sum := "71c492c443b4441d3a3e3050ab5617b362641b8b53b19d8df52a65369371925f", func := "collator/collatorlaw13.LruAgain", spec := "lruAgain", unfollowed := true, recurses := true, plainKeys := false, apart := false }
def LruAgainSaid : Prop := lruAgainRow.holds Try.pinned (OpenSpec.ofChange lruAgainSpec)

/-- ITS FALSE NEIGHBOUR: 'it returns false'. Refute it at one input. -/
def lruAgainWrong : ChangeSpec := { name := "lruAgain", fn := fun _ => fun
  | [d1, d2, d3] => { results := [.lit (.bool false)], args := [d1, d2, d3] }
  | _ => none }
def LruAgainWrongFalsely : Prop := lruAgainRow.holds Try.pinned (OpenSpec.ofChange lruAgainWrong)

/-- 'collatorlaw13.LruStack': WHATEVER THE INPUT: true; the input reads as it did. -/
def lruStackSpec : ChangeSpec := { name := "lruStack", fn := fun _ => fun
  | [d1, d2, d3, d4] => { results := [.lit (.bool true)], args := [d1, d2, d3, d4] }
  | _ => none }
def lruStackRow : OpenClaim := { program := "ytdlinfekifnmkaa", sum := "71c492c443b4441d3a3e3050ab5617b362641b8b53b19d8df52a65369371925f", func := "collator/collatorlaw13.LruStack", spec := "lruStack", unfollowed := true, recurses := true, plainKeys := false, apart := false }
def LruStackSaid : Prop := lruStackRow.holds Try.pinned (OpenSpec.ofChange lruStackSpec)

/-- ITS FALSE NEIGHBOUR: 'it returns false'. Refute it at one input. -/
def lruStackWrong : ChangeSpec := { name := "lruStack", fn := fun _ => fun
  | [d1, d2, d3, d4] => { results := [.lit (.bool false)], args := [d1, d2, d3, d4] }
  | _ => none }
def LruStackWrongFalsely : Prop := lruStackRow.holds Try.pinned (OpenSpec.ofChange lruStackWrong)

/-- 'collatorlaw16.QueueTells': WHATEVER THE INPUT: true; the input reads as it did. -/
def queueTellsSpec : ChangeSpec := { name := "queueTells", fn := fun _ => fun
  | [d1, d2, d3, d4, d5, d6, d7] => { results := [.lit (.bool true)], args := [d1, d2, d3, d4, d5, d6, d7] }
  | _ => none }
def queueTellsRow : OpenClaim := { program := "ytdlinfekifnmkaa", sum := "71c492c443b4441d3a3e3050ab5617b362641b8b53b19d8df52a65369371925f", func := "collator/collatorlaw16.QueueTells", spec := "queueTells", unfollowed := true, recurses := true, plainKeys := false, apart := false }
def QueueTellsSaid : Prop := queueTellsRow.holds Try.pinned (OpenSpec.ofChange queueTellsSpec)

/-- ITS FALSE NEIGHBOUR: 'it returns false'. Refute it at one input. -/
def queueTellsWrong : ChangeSpec := { name := "queueTells", fn := fun _ => fun
  | [d1, d2, d3, d4, d5, d6, d7] => { results := [.lit (.bool false)], args := [d1, d2, d3, d4, d5, d6, d7] }
  | _ => none }
def QueueTellsWrongFalsely : Prop := queueTellsRow.holds Try.pinned (OpenSpec.ofChange queueTellsWrong)

/-- 'collatorlaw16.QueueOrder': WHATEVER THE INPUT: true; the input reads as it did. -/
def queueOrderSpec : ChangeSpec := { name := "queueOrder", fn := fun _ => fun
  | [d1, d2, d3] => { results := [.lit (.bool true)], args := [d1, d2, d3] }
  | _ => none }
def queueOrderRow : OpenClaim := { program := "ytdlinfekifnmkaa", sum := "71c492c443b4441d3a3e3050ab5617b362641b8b53b19d8df52a65369371925f", func := "collator/collatorlaw16.QueueOrder", spec := "queueOrder", unfollowed := true, recurses := true, plainKeys := false, apart := false }
def QueueOrderSaid : Prop := queueOrderRow.holds Try.pinned (OpenSpec.ofChange queueOrderSpec)

/-- ITS FALSE NEIGHBOUR: 'it returns false'. Refute it at one input. -/
def queueOrderWrong : ChangeSpec := { name := "queueOrder", fn := fun _ => fun
  | [d1, d2, d3] => { results := [.lit (.bool false)], args := [d1, d2, d3] }
  | _ => none }
def QueueOrderWrongFalsely : Prop := queueOrderRow.holds Try.pinned (OpenSpec.ofChange queueOrderWrong)

/-- 'collatorlaw16.QueueParts': WHATEVER THE INPUT: true; the input reads as it did. -/
def queuePartsSpec : ChangeSpec := { name := "queueParts", fn := fun _ => fun
  | [d1, d2, d3, d4] => { results := [.lit (.bool true)], args := [d1, d2, d3, d4] }
  | _ => none }
def queuePartsRow : OpenClaim := { program := "ytdlinfekifnmkaa", sum := "71c492c443b4441d3a3e3050ab5617b362641b8b53b19d8df52a65369371925f", func := "collator/collatorlaw16.QueueParts", spec := "queueParts", unfollowed := true, recurses := true, plainKeys := false, apart := false }
def QueuePartsSaid : Prop := queuePartsRow.holds Try.pinned (OpenSpec.ofChange queuePartsSpec)

/-- ITS FALSE NEIGHBOUR: 'it returns false'. Refute it at one input. -/
def queuePartsWrong : ChangeSpec := { name := "queueParts", fn := fun _ => fun
  | [d1, d2, d3, d4] => { results := [.lit (.bool false)], args := [d1, d2, d3, d4] }
  | _ => none }
def QueuePartsWrongFalsely : Prop := queuePartsRow.holds Try.pinned (OpenSpec.ofChange queuePartsWrong)

/-- 'collatorlaw16.QueueAll': WHATEVER THE INPUT: true; the input reads as it did. -/
def queueAllSpec : ChangeSpec := { name := "queueAll", fn := fun _ => fun
  | [d1, d2, d3] => { results := [.lit (.bool true)], args := [d1, d2, d3] }
  | _ => none }
def queueAllRow : OpenClaim := { program := "ytdlinfekifnmkaa", sum := "71c492c443b4441d3a3e3050ab5617b362641b8b53b19d8df52a65369371925f", func := "collator/collatorlaw16.QueueAll", spec := "queueAll", unfollowed := true, recurses := true, plainKeys := false, apart := false }
def QueueAllSaid : Prop := queueAllRow.holds Try.pinned (OpenSpec.ofChange queueAllSpec)

/-- ITS FALSE NEIGHBOUR: 'it returns false'. Refute it at one input. -/
def queueAllWrong : ChangeSpec := { name := "queueAll", fn := fun _ => fun
  | [d1, d2, d3] => { results := [.lit (.bool false)], args := [d1, d2, d3] }
  | _ => none }
def QueueAllWrongFalsely : Prop := queueAllRow.holds Try.pinned (OpenSpec.ofChange queueAllWrong)

/-- 'collatorlaw21.HistTells': WHATEVER THE INPUT: true; the input reads as it did. -/
def histTellsSpec : ChangeSpec := { name := "histTells", fn := fun _ => fun
  | [d1, d2, d3, d4, d5] => { results := [.lit (.bool true)], args := [d1, d2, d3, d4, d5] }
  | _ => none }
def histTellsRow : OpenClaim := { program := "ytdlinfekifnmkaa", sum := "71c492c443b4441d3a3e3050ab5617b362641b8b53b19d8df52a65369371925f", func := "collator/collatorlaw21.HistTells", spec := "histTells", unfollowed := true, recurses := true, plainKeys := false, apart := false }
def HistTellsSaid : Prop := histTellsRow.holds Try.pinned (OpenSpec.ofChange histTellsSpec)

/-- ITS FALSE NEIGHBOUR: 'it returns false'. Refute it at one input. -/
def histTellsWrong : ChangeSpec := { name := "histTells", fn := fun _ => fun
  | [d1, d2, d3, d4, d5] => { results := [.lit (.bool false)], args := [d1, d2, d3, d4, d5] }
  | _ => none }
def HistTellsWrongFalsely : Prop := histTellsRow.holds Try.pinned (OpenSpec.ofChange histTellsWrong)

/-- 'collatorlaw21.HistNever': WHATEVER THE INPUT: true; the input reads as it did. -/
def histNeverSpec : ChangeSpec := { name := "histNever", fn := fun _ => fun
  | [d1, d2, d3] => { results := [.lit (.bool true)], args := [d1, d2, d3] }
  | _ => none }
def histNeverRow : OpenClaim := { program := "ytdlinfekifnmkaa", sum := "71c492c443b4441d3a3e3050ab5617b362641b8b53b19d8df52a65369371925f", func := "collator/collatorlaw21.HistNever", spec := "histNever", unfollowed := true, recurses := true, plainKeys := false, apart := false }
def HistNeverSaid : Prop := histNeverRow.holds Try.pinned (OpenSpec.ofChange histNeverSpec)

/-- ITS FALSE NEIGHBOUR: 'it returns false'. Refute it at one input. -/
def histNeverWrong : ChangeSpec := { name := "histNever", fn := fun _ => fun
  | [d1, d2, d3] => { results := [.lit (.bool false)], args := [d1, d2, d3] }
  | _ => none }
def HistNeverWrongFalsely : Prop := histNeverRow.holds Try.pinned (OpenSpec.ofChange histNeverWrong)

/-- 'collatorlaw21.HistWider': WHATEVER THE INPUT: true; the input reads as it did. -/
def histWiderSpec : ChangeSpec := { name := "histWider", fn := fun _ => fun
  | [d1, d2, d3, d4] => { results := [.lit (.bool true)], args := [d1, d2, d3, d4] }
  | _ => none }
def histWiderRow : OpenClaim := { program := "ytdlinfekifnmkaa", sum := "71c492c443b4441d3a3e3050ab5617b362641b8b53b19d8df52a65369371925f", func := "collator/collatorlaw21.HistWider", spec := "histWider", unfollowed := true, recurses := true, plainKeys := false, apart := false }
def HistWiderSaid : Prop := histWiderRow.holds Try.pinned (OpenSpec.ofChange histWiderSpec)

/-- ITS FALSE NEIGHBOUR: 'it returns false'. Refute it at one input. -/
def histWiderWrong : ChangeSpec := { name := "histWider", fn := fun _ => fun
  | [d1, d2, d3, d4] => { results := [.lit (.bool false)], args := [d1, d2, d3, d4] }
  | _ => none }
def HistWiderWrongFalsely : Prop := histWiderRow.holds Try.pinned (OpenSpec.ofChange histWiderWrong)

/-- 'collatorlaw21.HistLegal': WHATEVER THE INPUT: true; the input reads as it did. -/
def histLegalSpec : ChangeSpec := { name := "histLegal", fn := fun _ => fun
  | [d1, d2, d3] => { results := [.lit (.bool true)], args := [d1, d2, d3] }
  | _ => none }
def histLegalRow : OpenClaim := { program := "ytdlinfekifnmkaa", sum := "71c492c443b4441d3a3e3050ab5617b362641b8b53b19d8df52a65369371925f", func := "collator/collatorlaw21.HistLegal", spec := "histLegal", unfollowed := true, recurses := true, plainKeys := false, apart := false }
def HistLegalSaid : Prop := histLegalRow.holds Try.pinned (OpenSpec.ofChange histLegalSpec)

/-- ITS FALSE NEIGHBOUR: 'it returns false'. Refute it at one input. -/
def histLegalWrong : ChangeSpec := { name := "histLegal", fn := fun _ => fun
  | [d1, d2, d3] => { results := [.lit (.bool false)], args := [d1, d2, d3] }
  | _ => none }
def HistLegalWrongFalsely : Prop := histLegalRow.holds Try.pinned (OpenSpec.ofChange histLegalWrong)

/-- 'collatorlaw21.HistCalls': WHATEVER THE INPUT: true; the input reads as it did. -/
def histCallsSpec : ChangeSpec := { name := "histCalls", fn := fun _ => fun
  | [d1, d2] => { results := [.lit (.bool true)], args := [d1, d2] }
  | _ => none }
def histCallsRow : OpenClaim := { program := "ytdlinfekifnmkaa", sum := "71c492c443b4441d3a3e3050ab5617b362641b8b53b19d8df52a65369371925f", func := "collator/collatorlaw21.HistCalls", spec := "histCalls", unfollowed := true, recurses := true, plainKeys := false, apart := false }
def HistCallsSaid : Prop := histCallsRow.holds Try.pinned (OpenSpec.ofChange histCallsSpec)

/-- ITS FALSE NEIGHBOUR: 'it returns false'. Refute it at one input. -/
def histCallsWrong : ChangeSpec := { name := "histCalls", fn := fun _ => fun
  | [d1, d2] => { results := [.lit (.bool false)], args := [d1, d2] }
  | _ => none }
def HistCallsWrongFalsely : Prop := histCallsRow.holds Try.pinned (OpenSpec.ofChange histCallsWrong)

/-- 'collatorlaw21.HistKeys': WHATEVER THE INPUT: true; the input reads as it did. -/
def histKeysSpec : ChangeSpec := { name := "histKeys", fn := fun _ => fun
  | [d1, d2] => { results := [.lit (.bool true)], args := [d1, d2] }
  | _ => none }
def histKeysRow : OpenClaim := { program := "ytdlinfekifnmkaa", sum := "71c492c443b4441d3a3e3050ab5617b362641b8b53b19d8df52a65369371925f", func := "collator/collatorlaw21.HistKeys", spec := "histKeys", unfollowed := true, recurses := true, plainKeys := false, apart := false }
def HistKeysSaid : Prop := histKeysRow.holds Try.pinned (OpenSpec.ofChange histKeysSpec)

/-- ITS FALSE NEIGHBOUR: 'it returns false'. Refute it at one input. -/
def histKeysWrong : ChangeSpec := { name := "histKeys", fn := fun _ => fun
  | [d1, d2] => { results := [.lit (.bool false)], args := [d1, d2] }
  | _ => none }
def HistKeysWrongFalsely : Prop := histKeysRow.holds Try.pinned (OpenSpec.ofChange histKeysWrong)

/-- 'collatorlaw21.HistTurned': WHATEVER THE INPUT: true; the input reads as it did. -/
def histTurnedSpec : ChangeSpec := { name := "histTurned", fn := fun _ => fun
  | [d1, d2, d3, d4] => { results := [.lit (.bool true)], args := [d1, d2, d3, d4] }
  | _ => none }
def histTurnedRow : OpenClaim := { program := "ytdlinfekifnmkaa", sum := "71c492c443b4441d3a3e3050ab5617b362641b8b53b19d8df52a65369371925f", func := "collator/collatorlaw21.HistTurned", spec := "histTurned", unfollowed := true, recurses := true, plainKeys := false, apart := false }
def HistTurnedSaid : Prop := histTurnedRow.holds Try.pinned (OpenSpec.ofChange histTurnedSpec)

/-- ITS FALSE NEIGHBOUR: 'it returns false'. Refute it at one input. -/
def histTurnedWrong : ChangeSpec := { name := "histTurned", fn := fun _ => fun
  | [d1, d2, d3, d4] => { results := [.lit (.bool false)], args := [d1, d2, d3, d4] }
  | _ => none }
def HistTurnedWrongFalsely : Prop := histTurnedRow.holds Try.pinned (OpenSpec.ofChange histTurnedWrong)

/-- 'collatorlaw15.FlightTells': WHATEVER THE INPUT: true; the input reads as it did. -/
def flightTellsSpec : ChangeSpec := { name := "flightTells", fn := fun _ => fun
  | [d1, d2, d3, d4, d5, d6] => { results := [.lit (.bool true)], args := [d1, d2, d3, d4, d5, d6] }
  | _ => none }
def flightTellsRow : OpenClaim := { program := "ytdlinfekifnmkaa", sum := "71c492c443b4441d3a3e3050ab5617b362641b8b53b19d8df52a65369371925f", func := "collator/collatorlaw15.FlightTells", spec := "flightTells", unfollowed := true, recurses := true, plainKeys := false, apart := false }
def FlightTellsSaid : Prop := flightTellsRow.holds Try.pinned (OpenSpec.ofChange flightTellsSpec)

/-- ITS FALSE NEIGHBOUR: 'it returns false'. Refute it at one input. -/
def flightTellsWrong : ChangeSpec := { name := "flightTells", fn := fun _ => fun
  | [d1, d2, d3, d4, d5, d6] => { results := [.lit (.bool false)], args := [d1, d2, d3, d4, d5, d6] }
  | _ => none }
def FlightTellsWrongFalsely : Prop := flightTellsRow.holds Try.pinned (OpenSpec.ofChange flightTellsWrong)

/-- 'collatorlaw15.FlightOne': WHATEVER THE INPUT: true; the input reads as it did. -/
def flightOneSpec : ChangeSpec := { name := "flightOne", fn := fun _ => fun
  | [d] => { results := [.lit (.bool true)], args := [d] }
  | _ => none }
def flightOneRow : OpenClaim := { program := "ytdlinfekifnmkaa", sum := "71c492c443b4441d3a3e3050ab5617b362641b8b53b19d8df52a65369371925f", func := "collator/collatorlaw15.FlightOne", spec := "flightOne", unfollowed := true, recurses := true, plainKeys := false, apart := false }
def FlightOneSaid : Prop := flightOneRow.holds Try.pinned (OpenSpec.ofChange flightOneSpec)

/-- ITS FALSE NEIGHBOUR: 'it returns false'. Refute it at one input. -/
def flightOneWrong : ChangeSpec := { name := "flightOne", fn := fun _ => fun
  | [d] => { results := [.lit (.bool false)], args := [d] }
  | _ => none }
def FlightOneWrongFalsely : Prop := flightOneRow.holds Try.pinned (OpenSpec.ofChange flightOneWrong)

/-- 'collatorlaw15.FlightApart': WHATEVER THE INPUT: true; the input reads as it did. -/
def flightApartSpec : ChangeSpec := { name := "flightApart", fn := fun _ => fun
  | [d1, d2] => { results := [.lit (.bool true)], args := [d1, d2] }
  | _ => none }
def flightApartRow : OpenClaim := { program := "ytdlinfekifnmkaa", sum := "71c492c443b4441d3a3e3050ab5617b362641b8b53b19d8df52a65369371925f", func := "collator/collatorlaw15.FlightApart", spec := "flightApart", unfollowed := true, recurses := true, plainKeys := false, apart := false }
def FlightApartSaid : Prop := flightApartRow.holds Try.pinned (OpenSpec.ofChange flightApartSpec)

/-- ITS FALSE NEIGHBOUR: 'it returns false'. Refute it at one input. -/
def flightApartWrong : ChangeSpec := { name := "flightApart", fn := fun _ => fun
  | [d1, d2] => { results := [.lit (.bool false)], args := [d1, d2] }
  | _ => none }
def FlightApartWrongFalsely : Prop := flightApartRow.holds Try.pinned (OpenSpec.ofChange flightApartWrong)

/-- 'collatorlaw15.FlightMany': WHATEVER THE INPUT: true; the input reads as it did. -/
def flightManySpec : ChangeSpec := { name := "flightMany", fn := fun _ => fun
  | [d1, d2, d3] => { results := [.lit (.bool true)], args := [d1, d2, d3] }
  | _ => none }
def flightManyRow : OpenClaim := { program := "ytdlinfekifnmkaa", sum := "71c492c443b4441d3a3e3050ab5617b362641b8b53b19d8df52a65369371925f", func := "collator/collatorlaw15.FlightMany", spec := "flightMany", unfollowed := true, recurses := true, plainKeys := false, apart := false }
def FlightManySaid : Prop := flightManyRow.holds Try.pinned (OpenSpec.ofChange flightManySpec)

/-- ITS FALSE NEIGHBOUR: 'it returns false'. Refute it at one input. -/
def flightManyWrong : ChangeSpec := { name := "flightMany", fn := fun _ => fun
  | [d1, d2, d3] => { results := [.lit (.bool false)], args := [d1, d2, d3] }
  | _ => none }
def FlightManyWrongFalsely : Prop := flightManyRow.holds Try.pinned (OpenSpec.ofChange flightManyWrong)

/-- 'collatorlaw15.FlightEmpty': WHATEVER THE INPUT: true; the input reads as it did. -/
def flightEmptySpec : ChangeSpec := { name := "flightEmpty", fn := fun _ => fun
  | [d1, d2] => { results := [.lit (.bool true)], args := [d1, d2] }
  | _ => none }
def flightEmptyRow : OpenClaim := { program := "ytdlinfekifnmkaa", sum := "71c492c443b4441d3a3e3050ab5617b362641b8b53b19d8df52a65369371925f", func := "collator/collatorlaw15.FlightEmpty", spec := "flightEmpty", unfollowed := true, recurses := true, plainKeys := false, apart := false }
def FlightEmptySaid : Prop := flightEmptyRow.holds Try.pinned (OpenSpec.ofChange flightEmptySpec)

/-- ITS FALSE NEIGHBOUR: 'it returns false'. Refute it at one input. -/
def flightEmptyWrong : ChangeSpec := { name := "flightEmpty", fn := fun _ => fun
  | [d1, d2] => { results := [.lit (.bool false)], args := [d1, d2] }
  | _ => none }
def FlightEmptyWrongFalsely : Prop := flightEmptyRow.holds Try.pinned (OpenSpec.ofChange flightEmptyWrong)

/-- 'collatorlaw14.CacheTells': WHATEVER THE INPUT: true; the input reads as it did. -/
def cacheTellsSpec : ChangeSpec := { name := "cacheTells", fn := fun _ => fun
  | [d1, d2, d3, d4, d5, d6, d7, d8, d9, d10, d11] => { results := [.lit (.bool true)], args := [d1, d2, d3, d4, d5, d6, d7, d8, d9, d10, d11] }
  | _ => none }
def cacheTellsRow : OpenClaim := { program := "ytdlinfekifnmkaa", sum := "71c492c443b4441d3a3e3050ab5617b362641b8b53b19d8df52a65369371925f", func := "collator/collatorlaw14.CacheTells", spec := "cacheTells", unfollowed := true, recurses := true, plainKeys := false, apart := false }
def CacheTellsSaid : Prop := cacheTellsRow.holds Try.pinned (OpenSpec.ofChange cacheTellsSpec)

/-- ITS FALSE NEIGHBOUR: 'it returns false'. Refute it at one input. -/
def cacheTellsWrong : ChangeSpec := { name := "cacheTells", fn := fun _ => fun
  | [d1, d2, d3, d4, d5, d6, d7, d8, d9, d10, d11] => { results := [.lit (.bool false)], args := [d1, d2, d3, d4, d5, d6, d7, d8, d9, d10, d11] }
  | _ => none }
def CacheTellsWrongFalsely : Prop := cacheTellsRow.holds Try.pinned (OpenSpec.ofChange cacheTellsWrong)

/-- 'collatorlaw14.CacheLast': WHATEVER THE INPUT: true; the input reads as it did. -/
def cacheLastSpec : ChangeSpec := { name := "cacheLast", fn := fun _ => fun
  | [d1, d2, d3] => { results := [.lit (.bool true)], args := [d1, d2, d3] }
  | _ => none }
def cacheLastRow : OpenClaim := { program := "ytdlinfekifnmkaa", sum := "71c492c443b4441d3a3e3050ab5617b362641b8b53b19d8df52a65369371925f", func := "collator/collatorlaw14.CacheLast", spec := "cacheLast", unfollowed := true, recurses := true, plainKeys := false, apart := false }
def CacheLastSaid : Prop := cacheLastRow.holds Try.pinned (OpenSpec.ofChange cacheLastSpec)

/-- ITS FALSE NEIGHBOUR: 'it returns false'. Refute it at one input. -/
def cacheLastWrong : ChangeSpec := { name := "cacheLast", fn := fun _ => fun
  | [d1, d2, d3] => { results := [.lit (.bool false)], args := [d1, d2, d3] }
  | _ => none }
def CacheLastWrongFalsely : Prop := cacheLastRow.holds Try.pinned (OpenSpec.ofChange cacheLastWrong)

/-- 'collatorlaw14.CacheCounts': WHATEVER THE INPUT: true; the input reads as it did. -/
def cacheCountsSpec : ChangeSpec := { name := "cacheCounts", fn := fun _ => fun
  | [d1, d2, d3, d4] => { results := [.lit (.bool true)], args := [d1, d2, d3, d4] }
  | _ => none }
def cacheCountsRow : OpenClaim := { program := "ytdlinfekifnmkaa", sum := "71c492c443b4441d3a3e3050ab5617b362641b8b53b19d8df52a65369371925f", func := "collator/collatorlaw14.CacheCounts", spec := "cacheCounts", unfollowed := true, recurses := true, plainKeys := false, apart := false }
def CacheCountsSaid : Prop := cacheCountsRow.holds Try.pinned (OpenSpec.ofChange cacheCountsSpec)

/-- ITS FALSE NEIGHBOUR: 'it returns false'. Refute it at one input. -/
def cacheCountsWrong : ChangeSpec := { name := "cacheCounts", fn := fun _ => fun
  | [d1, d2, d3, d4] => { results := [.lit (.bool false)], args := [d1, d2, d3, d4] }
  | _ => none }
def CacheCountsWrongFalsely : Prop := cacheCountsRow.holds Try.pinned (OpenSpec.ofChange cacheCountsWrong)

/-- 'collatorlaw14.CacheAgain': WHATEVER THE INPUT: true; the input reads as it did. -/
def cacheAgainSpec : ChangeSpec := { name := "cacheAgain", fn := fun _ => fun
  | [d1, d2, d3] => { results := [.lit (.bool true)], args := [d1, d2, d3] }
  | _ => none }
def cacheAgainRow : OpenClaim := { program := "ytdlinfekifnmkaa", sum := "71c492c443b4441d3a3e3050ab5617b362641b8b53b19d8df52a65369371925f", func := "collator/collatorlaw14.CacheAgain", spec := "cacheAgain", unfollowed := true, recurses := true, plainKeys := false, apart := false }
def CacheAgainSaid : Prop := cacheAgainRow.holds Try.pinned (OpenSpec.ofChange cacheAgainSpec)

/-- ITS FALSE NEIGHBOUR: 'it returns false'. Refute it at one input. -/
def cacheAgainWrong : ChangeSpec := { name := "cacheAgain", fn := fun _ => fun
  | [d1, d2, d3] => { results := [.lit (.bool false)], args := [d1, d2, d3] }
  | _ => none }
def CacheAgainWrongFalsely : Prop := cacheAgainRow.holds Try.pinned (OpenSpec.ofChange cacheAgainWrong)

/-- 'collatorlaw14.CacheParts': WHATEVER THE INPUT: true; the input reads as it did. -/
def cachePartsSpec : ChangeSpec := { name := "cacheParts", fn := fun _ => fun
  | [d1, d2, d3] => { results := [.lit (.bool true)], args := [d1, d2, d3] }
  | _ => none }
def cachePartsRow : OpenClaim := { program := "ytdlinfekifnmkaa", sum := "71c492c443b4441d3a3e3050ab5617b362641b8b53b19d8df52a65369371925f", func := "collator/collatorlaw14.CacheParts", spec := "cacheParts", unfollowed := true, recurses := true, plainKeys := false, apart := false }
def CachePartsSaid : Prop := cachePartsRow.holds Try.pinned (OpenSpec.ofChange cachePartsSpec)

/-- ITS FALSE NEIGHBOUR: 'it returns false'. Refute it at one input. -/
def cachePartsWrong : ChangeSpec := { name := "cacheParts", fn := fun _ => fun
  | [d1, d2, d3] => { results := [.lit (.bool false)], args := [d1, d2, d3] }
  | _ => none }
def CachePartsWrongFalsely : Prop := cachePartsRow.holds Try.pinned (OpenSpec.ofChange cachePartsWrong)

/-- 'collatorlaw14.CacheStill': WHATEVER THE INPUT: true; the input reads as it did. -/
def cacheStillSpec : ChangeSpec := { name := "cacheStill", fn := fun _ => fun
  | [d1, d2, d3] => { results := [.lit (.bool true)], args := [d1, d2, d3] }
  | _ => none }
def cacheStillRow : OpenClaim := { program := "ytdlinfekifnmkaa", sum := "71c492c443b4441d3a3e3050ab5617b362641b8b53b19d8df52a65369371925f", func := "collator/collatorlaw14.CacheStill", spec := "cacheStill", unfollowed := true, recurses := true, plainKeys := false, apart := false }
def CacheStillSaid : Prop := cacheStillRow.holds Try.pinned (OpenSpec.ofChange cacheStillSpec)

/-- ITS FALSE NEIGHBOUR: 'it returns false'. Refute it at one input. -/
def cacheStillWrong : ChangeSpec := { name := "cacheStill", fn := fun _ => fun
  | [d1, d2, d3] => { results := [.lit (.bool false)], args := [d1, d2, d3] }
  | _ => none }
def CacheStillWrongFalsely : Prop := cacheStillRow.holds Try.pinned (OpenSpec.ofChange cacheStillWrong)

/-- 'collatorlaw21.HistPlays': WHATEVER THE INPUT: true; the input reads as it did. -/
def histPlaysSpec : ChangeSpec := { name := "histPlays", fn := fun _ => fun
  | [d1, d2, d3, d4] => { results := [.lit (.bool true)], args := [d1, d2, d3, d4] }
  | _ => none }
def histPlaysRow : OpenClaim := { program := "ytdlinfekifnmkaa", sum := "71c492c443b4441d3a3e3050ab5617b362641b8b53b19d8df52a65369371925f", func := "collator/collatorlaw21.HistPlays", spec := "histPlays", unfollowed := true, recurses := true, plainKeys := false, apart := false }
def HistPlaysSaid : Prop := histPlaysRow.holds Try.pinned (OpenSpec.ofChange histPlaysSpec)

/-- ITS FALSE NEIGHBOUR: 'it returns false'. Refute it at one input. -/
def histPlaysWrong : ChangeSpec := { name := "histPlays", fn := fun _ => fun
  | [d1, d2, d3, d4] => { results := [.lit (.bool false)], args := [d1, d2, d3, d4] }
  | _ => none }
def HistPlaysWrongFalsely : Prop := histPlaysRow.holds Try.pinned (OpenSpec.ofChange histPlaysWrong)

/- THE SECOND FORM. 'bulk': how many values and letters a reading holds, each counted each time it is reached (what is shared counts as often as it is met; a slice's spare places count too). A statement '..UptoSaid' is the law's where the arguments, and the package variables that the reading takes, are together of bulk at most 1048576: NARROWER than '..Said'. Prove '..Said' where nothing that the law and all that it calls make is longer than what came in: it says more and counts as full. Else prove '..UptoSaid'. A law counts once. -/
mutual
def uptoBulk {H : Type} : DataW H → Nat
  | .lit (.string bytes) => bytes.length + 1
  | .lit _ => 1
  | .nil => 1
  | .ptr d => uptoBulk d + 1
  | .slice elems spare => uptoBulkAll elems + uptoBulkAll spare + 1
  | .agg parts => uptoBulkAll parts + 1
  | .iface _ d => uptoBulk d + 1
  | .map entries => uptoBulkEntries entries + 1
  | .held _ => 1
def uptoBulkAll {H : Type} : List (DataW H) → Nat
  | [] => 0
  | d :: r => uptoBulk d + uptoBulkAll r
def uptoBulkEntries {H : Type} : List (Lit × DataW H) → Nat
  | [] => 0
  | x :: r => uptoBulkEntry x + uptoBulkEntries r
def uptoBulkEntry {H : Type} : Lit × DataW H → Nat
  | (.string bytes, d) => bytes.length + uptoBulk d + 1
  | (_, d) => uptoBulk d + 1
 end
def uptoSmall : (H : Type) → List (DataW H) → Bool := fun _ ds => decide (uptoBulkAll ds ≤ 1048576)
def OpenSpec.upto (s : _root_.Go.ChangeSpec) : _root_.Go.OpenSpec := { _root_.Go.OpenSpec.ofChange s with cond := some uptoSmall }

/-- 'collatorlaw09.SumsTells', WHERE WHAT IT READS IS OF BULK AT MOST 1048576: true; the input reads as it did. -/
def sumsTellsUptoRow : OpenClaim := { program := "ytdlinfekifnmkaa", sum := "71c492c443b4441d3a3e3050ab5617b362641b8b53b19d8df52a65369371925f", func := "collator/collatorlaw09.SumsTells", spec := "sumsTells", plainKeys := false, apart := false, narrowed := true }
def SumsTellsUptoSaid : Prop := sumsTellsUptoRow.holds Try.pinned (OpenSpec.upto sumsTellsSpec)

/-- 'collatorlaw09.SumsWidth', WHERE WHAT IT READS IS OF BULK AT MOST 1048576: true; the input reads as it did. -/
def sumsWidthUptoRow : OpenClaim := { program := "ytdlinfekifnmkaa", sum := "71c492c443b4441d3a3e3050ab5617b362641b8b53b19d8df52a65369371925f", func := "collator/collatorlaw09.SumsWidth", spec := "sumsWidth", plainKeys := false, apart := false, narrowed := true }
def SumsWidthUptoSaid : Prop := sumsWidthUptoRow.holds Try.pinned (OpenSpec.upto sumsWidthSpec)

/-- 'collatorlaw09.SumsParts', WHERE WHAT IT READS IS OF BULK AT MOST 1048576: true; the input reads as it did. -/
def sumsPartsUptoRow : OpenClaim := { program := "ytdlinfekifnmkaa", sum := "71c492c443b4441d3a3e3050ab5617b362641b8b53b19d8df52a65369371925f", func := "collator/collatorlaw09.SumsParts", spec := "sumsParts", plainKeys := false, apart := false, narrowed := true }
def SumsPartsUptoSaid : Prop := sumsPartsUptoRow.holds Try.pinned (OpenSpec.upto sumsPartsSpec)

/-- 'collatorlaw09.SumsOne', WHERE WHAT IT READS IS OF BULK AT MOST 1048576: true; the input reads as it did. -/
def sumsOneUptoRow : OpenClaim := { program := "ytdlinfekifnmkaa", sum := "71c492c443b4441d3a3e3050ab5617b362641b8b53b19d8df52a65369371925f", func := "collator/collatorlaw09.SumsOne", spec := "sumsOne", plainKeys := false, apart := false, narrowed := true }
def SumsOneUptoSaid : Prop := sumsOneUptoRow.holds Try.pinned (OpenSpec.upto sumsOneSpec)

/-- 'collatorlaw09.SumsBoth', WHERE WHAT IT READS IS OF BULK AT MOST 1048576: true; the input reads as it did. -/
def sumsBothUptoRow : OpenClaim := { program := "ytdlinfekifnmkaa", sum := "71c492c443b4441d3a3e3050ab5617b362641b8b53b19d8df52a65369371925f", func := "collator/collatorlaw09.SumsBoth", spec := "sumsBoth", plainKeys := false, apart := false, narrowed := true }
def SumsBothUptoSaid : Prop := sumsBothUptoRow.holds Try.pinned (OpenSpec.upto sumsBothSpec)

/-- 'collatorlaw13.LruTells', WHERE WHAT IT READS IS OF BULK AT MOST 1048576: true; the input reads as it did. -/
def lruTellsUptoRow : OpenClaim := { program := "ytdlinfekifnmkaa", sum := "71c492c443b4441d3a3e3050ab5617b362641b8b53b19d8df52a65369371925f", func := "collator/collatorlaw13.LruTells", spec := "lruTells", unfollowed := true, recurses := true, plainKeys := false, apart := false, narrowed := true }
def LruTellsUptoSaid : Prop := lruTellsUptoRow.holds Try.pinned (OpenSpec.upto lruTellsSpec)

/-- 'collatorlaw13.LruLast', WHERE WHAT IT READS IS OF BULK AT MOST 1048576: true; the input reads as it did. -/
def lruLastUptoRow : OpenClaim := { program := "ytdlinfekifnmkaa", sum := "71c492c443b4441d3a3e3050ab5617b362641b8b53b19d8df52a65369371925f", func := "collator/collatorlaw13.LruLast", spec := "lruLast", unfollowed := true, recurses := true, plainKeys := false, apart := false, narrowed := true }
def LruLastUptoSaid : Prop := lruLastUptoRow.holds Try.pinned (OpenSpec.upto lruLastSpec)

/-- 'collatorlaw13.LruOrder', WHERE WHAT IT READS IS OF BULK AT MOST 1048576: true; the input reads as it did. -/
def lruOrderUptoRow : OpenClaim := { program := "ytdlinfekifnmkaa", sum := "71c492c443b4441d3a3e3050ab5617b362641b8b53b19d8df52a65369371925f", func := "collator/collatorlaw13.LruOrder", spec := "lruOrder", unfollowed := true, recurses := true, plainKeys := false, apart := false, narrowed := true }
def LruOrderUptoSaid : Prop := lruOrderUptoRow.holds Try.pinned (OpenSpec.upto lruOrderSpec)

/-- 'collatorlaw13.LruKeeps', WHERE WHAT IT READS IS OF BULK AT MOST 1048576: true; the input reads as it did. -/
def lruKeepsUptoRow : OpenClaim := { program := "ytdlinfekifnmkaa", sum := "71c492c443b4441d3a3e3050ab5617b362641b8b53b19d8df52a65369371925f", func := "collator/collatorlaw13.LruKeeps", spec := "lruKeeps", unfollowed := true, recurses := true, plainKeys := false, apart := false, narrowed := true }
def LruKeepsUptoSaid : Prop := lruKeepsUptoRow.holds Try.pinned (OpenSpec.upto lruKeepsSpec)

/-- 'collatorlaw13.LruAgain', WHERE WHAT IT READS IS OF BULK AT MOST 1048576: true; the input reads as it did. -/
def lruAgainUptoRow : OpenClaim := { program := "ytdlinfekifnmkaa", sum := "71c492c443b4441d3a3e3050ab5617b362641b8b53b19d8df52a65369371925f", func := "collator/collatorlaw13.LruAgain", spec := "lruAgain", unfollowed := true, recurses := true, plainKeys := false, apart := false, narrowed := true }
def LruAgainUptoSaid : Prop := lruAgainUptoRow.holds Try.pinned (OpenSpec.upto lruAgainSpec)

/-- 'collatorlaw13.LruStack', WHERE WHAT IT READS IS OF BULK AT MOST 1048576: true; the input reads as it did. -/
def lruStackUptoRow : OpenClaim := { program := "ytdlinfekifnmkaa", sum := "71c492c443b4441d3a3e3050ab5617b362641b8b53b19d8df52a65369371925f", func := "collator/collatorlaw13.LruStack", spec := "lruStack", unfollowed := true, recurses := true, plainKeys := false, apart := false, narrowed := true }
def LruStackUptoSaid : Prop := lruStackUptoRow.holds Try.pinned (OpenSpec.upto lruStackSpec)

/-- 'collatorlaw16.QueueTells', WHERE WHAT IT READS IS OF BULK AT MOST 1048576: true; the input reads as it did. -/
def queueTellsUptoRow : OpenClaim := { program := "ytdlinfekifnmkaa", sum := "71c492c443b4441d3a3e3050ab5617b362641b8b53b19d8df52a65369371925f", func := "collator/collatorlaw16.QueueTells", spec := "queueTells", unfollowed := true, recurses := true, plainKeys := false, apart := false, narrowed := true }
def QueueTellsUptoSaid : Prop := queueTellsUptoRow.holds Try.pinned (OpenSpec.upto queueTellsSpec)

/-- 'collatorlaw16.QueueOrder', WHERE WHAT IT READS IS OF BULK AT MOST 1048576: true; the input reads as it did. -/
def queueOrderUptoRow : OpenClaim := { program := "ytdlinfekifnmkaa", sum := "71c492c443b4441d3a3e3050ab5617b362641b8b53b19d8df52a65369371925f", func := "collator/collatorlaw16.QueueOrder", spec := "queueOrder", unfollowed := true, recurses := true, plainKeys := false, apart := false, narrowed := true }
def QueueOrderUptoSaid : Prop := queueOrderUptoRow.holds Try.pinned (OpenSpec.upto queueOrderSpec)

/-- 'collatorlaw16.QueueParts', WHERE WHAT IT READS IS OF BULK AT MOST 1048576: true; the input reads as it did. -/
def queuePartsUptoRow : OpenClaim := { program := "ytdlinfekifnmkaa", sum := "71c492c443b4441d3a3e3050ab5617b362641b8b53b19d8df52a65369371925f", func := "collator/collatorlaw16.QueueParts", spec := "queueParts", unfollowed := true, recurses := true, plainKeys := false, apart := false, narrowed := true }
def QueuePartsUptoSaid : Prop := queuePartsUptoRow.holds Try.pinned (OpenSpec.upto queuePartsSpec)

/-- 'collatorlaw16.QueueAll', WHERE WHAT IT READS IS OF BULK AT MOST 1048576: true; the input reads as it did. -/
def queueAllUptoRow : OpenClaim := { program := "ytdlinfekifnmkaa", sum := "71c492c443b4441d3a3e3050ab5617b362641b8b53b19d8df52a65369371925f", func := "collator/collatorlaw16.QueueAll", spec := "queueAll", unfollowed := true, recurses := true, plainKeys := false, apart := false, narrowed := true }
def QueueAllUptoSaid : Prop := queueAllUptoRow.holds Try.pinned (OpenSpec.upto queueAllSpec)

/-- 'collatorlaw21.HistTells', WHERE WHAT IT READS IS OF BULK AT MOST 1048576: true; the input reads as it did. -/
def histTellsUptoRow : OpenClaim := { program := "ytdlinfekifnmkaa", sum := "71c492c443b4441d3a3e3050ab5617b362641b8b53b19d8df52a65369371925f", func := "collator/collatorlaw21.HistTells", spec := "histTells", unfollowed := true, recurses := true, plainKeys := false, apart := false, narrowed := true }
def HistTellsUptoSaid : Prop := histTellsUptoRow.holds Try.pinned (OpenSpec.upto histTellsSpec)

/-- 'collatorlaw21.HistNever', WHERE WHAT IT READS IS OF BULK AT MOST 1048576: true; the input reads as it did. -/
def histNeverUptoRow : OpenClaim := { program := "ytdlinfekifnmkaa", sum := "71c492c443b4441d3a3e3050ab5617b362641b8b53b19d8df52a65369371925f", func := "collator/collatorlaw21.HistNever", spec := "histNever", unfollowed := true, recurses := true, plainKeys := false, apart := false, narrowed := true }
def HistNeverUptoSaid : Prop := histNeverUptoRow.holds Try.pinned (OpenSpec.upto histNeverSpec)

/-- 'collatorlaw21.HistWider', WHERE WHAT IT READS IS OF BULK AT MOST 1048576: true; the input reads as it did. -/
def histWiderUptoRow : OpenClaim := { program := "ytdlinfekifnmkaa", sum := "71c492c443b4441d3a3e3050ab5617b362641b8b53b19d8df52a65369371925f", func := "collator/collatorlaw21.HistWider", spec := "histWider", unfollowed := true, recurses := true, plainKeys := false, apart := false, narrowed := true }
def HistWiderUptoSaid : Prop := histWiderUptoRow.holds Try.pinned (OpenSpec.upto histWiderSpec)

/-- 'collatorlaw21.HistLegal', WHERE WHAT IT READS IS OF BULK AT MOST 1048576: true; the input reads as it did. -/
def histLegalUptoRow : OpenClaim := { program := "ytdlinfekifnmkaa", sum := "71c492c443b4441d3a3e3050ab5617b362641b8b53b19d8df52a65369371925f", func := "collator/collatorlaw21.HistLegal", spec := "histLegal", unfollowed := true, recurses := true, plainKeys := false, apart := false, narrowed := true }
def HistLegalUptoSaid : Prop := histLegalUptoRow.holds Try.pinned (OpenSpec.upto histLegalSpec)

/-- 'collatorlaw21.HistCalls', WHERE WHAT IT READS IS OF BULK AT MOST 1048576: true; the input reads as it did. -/
def histCallsUptoRow : OpenClaim := { program := "ytdlinfekifnmkaa", sum := "71c492c443b4441d3a3e3050ab5617b362641b8b53b19d8df52a65369371925f", func := "collator/collatorlaw21.HistCalls", spec := "histCalls", unfollowed := true, recurses := true, plainKeys := false, apart := false, narrowed := true }
def HistCallsUptoSaid : Prop := histCallsUptoRow.holds Try.pinned (OpenSpec.upto histCallsSpec)

/-- 'collatorlaw21.HistKeys', WHERE WHAT IT READS IS OF BULK AT MOST 1048576: true; the input reads as it did. -/
def histKeysUptoRow : OpenClaim := { program := "ytdlinfekifnmkaa", sum := "71c492c443b4441d3a3e3050ab5617b362641b8b53b19d8df52a65369371925f", func := "collator/collatorlaw21.HistKeys", spec := "histKeys", unfollowed := true, recurses := true, plainKeys := false, apart := false, narrowed := true }
def HistKeysUptoSaid : Prop := histKeysUptoRow.holds Try.pinned (OpenSpec.upto histKeysSpec)

/-- 'collatorlaw21.HistTurned', WHERE WHAT IT READS IS OF BULK AT MOST 1048576: true; the input reads as it did. -/
def histTurnedUptoRow : OpenClaim := { program := "ytdlinfekifnmkaa", sum := "71c492c443b4441d3a3e3050ab5617b362641b8b53b19d8df52a65369371925f", func := "collator/collatorlaw21.HistTurned", spec := "histTurned", unfollowed := true, recurses := true, plainKeys := false, apart := false, narrowed := true }
def HistTurnedUptoSaid : Prop := histTurnedUptoRow.holds Try.pinned (OpenSpec.upto histTurnedSpec)

/-- 'collatorlaw15.FlightTells', WHERE WHAT IT READS IS OF BULK AT MOST 1048576: true; the input reads as it did. -/
def flightTellsUptoRow : OpenClaim := { program := "ytdlinfekifnmkaa", sum := "71c492c443b4441d3a3e3050ab5617b362641b8b53b19d8df52a65369371925f", func := "collator/collatorlaw15.FlightTells", spec := "flightTells", unfollowed := true, recurses := true, plainKeys := false, apart := false, narrowed := true }
def FlightTellsUptoSaid : Prop := flightTellsUptoRow.holds Try.pinned (OpenSpec.upto flightTellsSpec)

/-- 'collatorlaw15.FlightOne', WHERE WHAT IT READS IS OF BULK AT MOST 1048576: true; the input reads as it did. -/
def flightOneUptoRow : OpenClaim := { program := "ytdlinfekifnmkaa", sum := "71c492c443b4441d3a3e3050ab5617b362641b8b53b19d8df52a65369371925f", func := "collator/collatorlaw15.FlightOne", spec := "flightOne", unfollowed := true, recurses := true, plainKeys := false, apart := false, narrowed := true }
def FlightOneUptoSaid : Prop := flightOneUptoRow.holds Try.pinned (OpenSpec.upto flightOneSpec)

/-- 'collatorlaw15.FlightApart', WHERE WHAT IT READS IS OF BULK AT MOST 1048576: true; the input reads as it did. -/
def flightApartUptoRow : OpenClaim := { program := "ytdlinfekifnmkaa", sum := "71c492c443b4441d3a3e3050ab5617b362641b8b53b19d8df52a65369371925f", func := "collator/collatorlaw15.FlightApart", spec := "flightApart", unfollowed := true, recurses := true, plainKeys := false, apart := false, narrowed := true }
def FlightApartUptoSaid : Prop := flightApartUptoRow.holds Try.pinned (OpenSpec.upto flightApartSpec)

/-- 'collatorlaw15.FlightMany', WHERE WHAT IT READS IS OF BULK AT MOST 1048576: true; the input reads as it did. -/
def flightManyUptoRow : OpenClaim := { program := "ytdlinfekifnmkaa", sum := "71c492c443b4441d3a3e3050ab5617b362641b8b53b19d8df52a65369371925f", func := "collator/collatorlaw15.FlightMany", spec := "flightMany", unfollowed := true, recurses := true, plainKeys := false, apart := false, narrowed := true }
def FlightManyUptoSaid : Prop := flightManyUptoRow.holds Try.pinned (OpenSpec.upto flightManySpec)

/-- 'collatorlaw15.FlightEmpty', WHERE WHAT IT READS IS OF BULK AT MOST 1048576: true; the input reads as it did. -/
def flightEmptyUptoRow : OpenClaim := { program := "ytdlinfekifnmkaa", sum := "71c492c443b4441d3a3e3050ab5617b362641b8b53b19d8df52a65369371925f", func := "collator/collatorlaw15.FlightEmpty", spec := "flightEmpty", unfollowed := true, recurses := true, plainKeys := false, apart := false, narrowed := true }
def FlightEmptyUptoSaid : Prop := flightEmptyUptoRow.holds Try.pinned (OpenSpec.upto flightEmptySpec)

/-- 'collatorlaw14.CacheTells', WHERE WHAT IT READS IS OF BULK AT MOST 1048576: true; the input reads as it did. -/
def cacheTellsUptoRow : OpenClaim := { program := "ytdlinfekifnmkaa", sum := "71c492c443b4441d3a3e3050ab5617b362641b8b53b19d8df52a65369371925f", func := "collator/collatorlaw14.CacheTells", spec := "cacheTells", unfollowed := true, recurses := true, plainKeys := false, apart := false, narrowed := true }
def CacheTellsUptoSaid : Prop := cacheTellsUptoRow.holds Try.pinned (OpenSpec.upto cacheTellsSpec)

/-- 'collatorlaw14.CacheLast', WHERE WHAT IT READS IS OF BULK AT MOST 1048576: true; the input reads as it did. -/
def cacheLastUptoRow : OpenClaim := { program := "ytdlinfekifnmkaa", sum := "71c492c443b4441d3a3e3050ab5617b362641b8b53b19d8df52a65369371925f", func := "collator/collatorlaw14.CacheLast", spec := "cacheLast", unfollowed := true, recurses := true, plainKeys := false, apart := false, narrowed := true }
def CacheLastUptoSaid : Prop := cacheLastUptoRow.holds Try.pinned (OpenSpec.upto cacheLastSpec)

/-- 'collatorlaw14.CacheCounts', WHERE WHAT IT READS IS OF BULK AT MOST 1048576: true; the input reads as it did. -/
def cacheCountsUptoRow : OpenClaim := { program := "ytdlinfekifnmkaa", sum := "71c492c443b4441d3a3e3050ab5617b362641b8b53b19d8df52a65369371925f", func := "collator/collatorlaw14.CacheCounts", spec := "cacheCounts", unfollowed := true, recurses := true, plainKeys := false, apart := false, narrowed := true }
def CacheCountsUptoSaid : Prop := cacheCountsUptoRow.holds Try.pinned (OpenSpec.upto cacheCountsSpec)

/-- 'collatorlaw14.CacheAgain', WHERE WHAT IT READS IS OF BULK AT MOST 1048576: true; the input reads as it did. -/
def cacheAgainUptoRow : OpenClaim := { program := "ytdlinfekifnmkaa", sum := "71c492c443b4441d3a3e3050ab5617b362641b8b53b19d8df52a65369371925f", func := "collator/collatorlaw14.CacheAgain", spec := "cacheAgain", unfollowed := true, recurses := true, plainKeys := false, apart := false, narrowed := true }
def CacheAgainUptoSaid : Prop := cacheAgainUptoRow.holds Try.pinned (OpenSpec.upto cacheAgainSpec)

/-- 'collatorlaw14.CacheParts', WHERE WHAT IT READS IS OF BULK AT MOST 1048576: true; the input reads as it did. -/
def cachePartsUptoRow : OpenClaim := { program := "ytdlinfekifnmkaa", sum := "71c492c443b4441d3a3e3050ab5617b362641b8b53b19d8df52a65369371925f", func := "collator/collatorlaw14.CacheParts", spec := "cacheParts", unfollowed := true, recurses := true, plainKeys := false, apart := false, narrowed := true }
def CachePartsUptoSaid : Prop := cachePartsUptoRow.holds Try.pinned (OpenSpec.upto cachePartsSpec)

/-- 'collatorlaw14.CacheStill', WHERE WHAT IT READS IS OF BULK AT MOST 1048576: true; the input reads as it did. -/
def cacheStillUptoRow : OpenClaim := { program := "ytdlinfekifnmkaa", sum := "71c492c443b4441d3a3e3050ab5617b362641b8b53b19d8df52a65369371925f", func := "collator/collatorlaw14.CacheStill", spec := "cacheStill", unfollowed := true, recurses := true, plainKeys := false, apart := false, narrowed := true }
def CacheStillUptoSaid : Prop := cacheStillUptoRow.holds Try.pinned (OpenSpec.upto cacheStillSpec)

/-- 'collatorlaw21.HistPlays', WHERE WHAT IT READS IS OF BULK AT MOST 1048576: true; the input reads as it did. -/
def histPlaysUptoRow : OpenClaim := { program := "ytdlinfekifnmkaa", sum := "71c492c443b4441d3a3e3050ab5617b362641b8b53b19d8df52a65369371925f", func := "collator/collatorlaw21.HistPlays", spec := "histPlays", unfollowed := true, recurses := true, plainKeys := false, apart := false, narrowed := true }
def HistPlaysUptoSaid : Prop := histPlaysUptoRow.holds Try.pinned (OpenSpec.upto histPlaysSpec)

end Rows
end Go.Proofs.Ytdlinfekifnmkaa
