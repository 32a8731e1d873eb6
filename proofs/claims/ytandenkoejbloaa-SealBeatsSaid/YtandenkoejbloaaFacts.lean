/- Facts of the seat's whole program that every row asks for, each reckoned once. Conditions: none. -/
import Derived.Test.YtandenkoejbloaaRows
import Derived.Test.YtandenkoejbloaaOpen
namespace Go.Proofs.Ytandenkoejbloaa
open Go Go.ChangeShapes Go.WideShapes Go.ChangeAt Go.RowKit
/-- The signs of the seat's own first word, by number. -/
def signs : List Nat := [104, 97, 114, 110, 101, 115, 115, 32, 97, 50, 53, 52, 54, 55, 98, 102, 49, 54, 55, 48, 97, 99, 52, 50, 50, 49, 53, 97, 52, 52, 54, 49, 52, 53, 100, 57, 97, 97, 55, 54, 51, 51, 50, 102, 53, 53, 102, 55, 98, 56, 55, 100, 50, 98, 56, 51, 100, 57, 50, 102, 49, 50, 54, 98, 51, 53, 56, 54, 56, 49, 57, 51, 32, 99, 117, 116, 32, 97, 116, 32, 113, 117, 111, 114, 117, 109, 105, 116, 101, 47, 113, 117, 111, 114, 117, 109, 105, 116, 101, 108, 97, 119, 49, 46, 83, 105, 112, 65, 115, 107, 115, 32, 113, 117, 111, 114, 117, 109, 105, 116, 101, 47, 113, 117, 111, 114, 117, 109, 105, 116, 101, 108, 97, 119, 49, 46, 83, 105, 112, 80, 97, 114, 116, 115, 32, 113, 117, 111, 114, 117, 109, 105, 116, 101, 47, 113, 117, 111, 114, 117, 109, 105, 116, 101, 108, 97, 119, 49, 46, 83, 105, 112, 78, 117, 109, 98, 101, 114, 115, 32, 113, 117, 111, 114, 117, 109, 105, 116, 101, 47, 113, 117, 111, 114, 117, 109, 105, 116, 101, 108, 97, 119, 49, 46, 83, 105, 112, 82, 111, 117, 110, 100, 115, 32, 113, 117, 111, 114, 117, 109, 105, 116, 101, 47, 113, 117, 111, 114, 117, 109, 105, 116, 101, 108, 97, 119, 49, 46, 83, 105, 112, 66, 108, 111, 99, 107, 115, 32, 113, 117, 111, 114, 117, 109, 105, 116, 101, 47, 113, 117, 111, 114, 117, 109, 105, 116, 101, 108, 97, 119, 49, 46, 83, 105, 112, 84, 119, 111, 32, 113, 117, 111, 114, 117, 109, 105, 116, 101, 47, 113, 117, 111, 114, 117, 109, 105, 116, 101, 108, 97, 119, 50, 46, 77, 97, 99, 66, 121, 116, 101, 115, 32, 113, 117, 111, 114, 117, 109, 105, 116, 101, 47, 113, 117, 111, 114, 117, 109, 105, 116, 101, 108, 97, 119, 50, 46, 77, 97, 99, 65, 115, 107, 115, 32, 113, 117, 111, 114, 117, 109, 105, 116, 101, 47, 113, 117, 111, 114, 117, 109, 105, 116, 101, 108, 97, 119, 50, 46, 77, 97, 99, 83, 97, 109, 101, 32, 113, 117, 111, 114, 117, 109, 105, 116, 101, 47, 113, 117, 111, 114, 117, 109, 105, 116, 101, 108, 97, 119, 50, 46, 77, 97, 99, 76, 97, 98, 101, 108, 115, 32, 113, 117, 111, 114, 117, 109, 105, 116, 101, 47, 113, 117, 111, 114, 117, 109, 105, 116, 101, 108, 97, 119, 50, 46, 77, 97, 99, 87, 111, 114, 100, 115, 32, 113, 117, 111, 114, 117, 109, 105, 116, 101, 47, 113, 117, 111, 114, 117, 109, 105, 116, 101, 108, 97, 119, 50, 46, 77, 97, 99, 75, 101, 121, 115, 32, 113, 117, 111, 114, 117, 109, 105, 116, 101, 47, 113, 117, 111, 114, 117, 109, 105, 116, 101, 108, 97, 119, 52, 46, 87, 105, 114, 101, 65, 115, 107, 115, 32, 113, 117, 111, 114, 117, 109, 105, 116, 101, 47, 113, 117, 111, 114, 117, 109, 105, 116, 101, 108, 97, 119, 52, 46, 87, 105, 114, 101, 66, 97, 99, 107, 32, 113, 117, 111, 114, 117, 109, 105, 116, 101, 47, 113, 117, 111, 114, 117, 109, 105, 116, 101, 108, 97, 119, 52, 46, 87, 105, 114, 101, 66, 111, 117, 110, 100, 115, 32, 113, 117, 111, 114, 117, 109, 105, 116, 101, 47, 113, 117, 111, 114, 117, 109, 105, 116, 101, 108, 97, 119, 52, 46, 87, 105, 114, 101, 75, 105, 110, 100, 115, 32, 113, 117, 111, 114, 117, 109, 105, 116, 101, 47, 113, 117, 111, 114, 117, 109, 105, 116, 101, 108, 97, 119, 52, 46, 87, 105, 114, 101, 83, 101, 97, 108, 115, 32, 113, 117, 111, 114, 117, 109, 105, 116, 101, 47, 113, 117, 111, 114, 117, 109, 105, 116, 101, 108, 97, 119, 53, 46, 82, 105, 110, 103, 80, 108, 97, 121, 115, 32, 113, 117, 111, 114, 117, 109, 105, 116, 101, 47, 113, 117, 111, 114, 117, 109, 105, 116, 101, 108, 97, 119, 53, 46, 82, 105, 110, 103, 71, 114, 97, 99, 101, 32, 113, 117, 111, 114, 117, 109, 105, 116, 101, 47, 113, 117, 111, 114, 117, 109, 105, 116, 101, 108, 97, 119, 53, 46, 82, 105, 110, 103, 79, 116, 104, 101, 114, 115, 32, 113, 117, 111, 114, 117, 109, 105, 116, 101, 47, 113, 117, 111, 114, 117, 109, 105, 116, 101, 108, 97, 119, 55, 46, 83, 101, 97, 108, 80, 108, 97, 121, 115, 32, 113, 117, 111, 114, 117, 109, 105, 116, 101, 47, 113, 117, 111, 114, 117, 109, 105, 116, 101, 108, 97, 119, 55, 46, 83, 101, 97, 108, 78, 117, 109, 98, 101, 114, 115, 32, 113, 117, 111, 114, 117, 109, 105, 116, 101, 47, 113, 117, 111, 114, 117, 109, 105, 116, 101, 108, 97, 119, 55, 46, 83, 101, 97, 108, 65, 112, 97, 114, 116, 32, 113, 117, 111, 114, 117, 109, 105, 116, 101, 47, 113, 117, 111, 114, 117, 109, 105, 116, 101, 108, 97, 119, 55, 46, 83, 101, 97, 108, 66, 101, 97, 116, 115]
set_option maxRecDepth 100000 in
theorem order : Try.prog.initOrder = String.ofList (signs.map Char.ofNat) := by kernel_rfl
set_option maxRecDepth 100000 in
theorem words : behindMainWord (wordsSigns (signs.map Char.ofNat)) = behindMainWord (wordsSigns (signs.map Char.ofNat)) := by kernel_rfl
theorem lays : Try.prog.laysLater = false := by kernel_rfl
theorem bears : Try.prog.bearsReflect = false := by kernel_rfl
theorem door : Try.prog.doorRows = [] := by kernel_rfl
theorem strips (r : List (List Char)) : stripLifts liftWords ("cut".toList :: r) = ([], "cut".toList :: r) := by
  simp only [liftWords, stripLifts]
  repeat rw [if_neg (by decide +kernel)]
theorem head : (behindMainWord (wordsSigns (signs.map Char.ofNat))).head? = some "cut".toList := by kernel_rfl
theorem split : ∃ r, behindMainWord (wordsSigns Try.prog.initOrder.toList) = "cut".toList :: r := by
  rw [order, String.toList_ofList]
  have h := head
  revert h
  cases behindMainWord (wordsSigns (signs.map Char.ofNat)) with
  | nil => intro h; cases h
  | cons c r => intro h; cases h; exact ⟨r, rfl⟩
theorem enters_of (P : Program) (r : List (List Char)) (h : behindMainWord (wordsSigns P.initOrder.toList) = "cut".toList :: r) (lays : P.laysLater = false) (bears : P.bearsReflect = false) (door : P.doorRows = []) : P.mayEnter = true := by
  have e1 : ("cut".toList == "gc".toList) = false := by decide +kernel
  have e2 : ("cut".toList == "spec".toList) = false := by decide +kernel
  have e3 : ("cut".toList == "carried".toList) = false := by decide +kernel
  simp only [Program.mayEnter, Program.doorFits, h, strips, e1, e2, e3, lays, bears, door]
  simp
theorem heads_of (P : Program) (r : List (List Char)) (h : behindMainWord (wordsSigns P.initOrder.toList) = "cut".toList :: r) : P.headLifts = [] := by
  simp only [Program.headLifts, h, strips]
  simp
theorem lifts_of (P : Program) (r : List (List Char)) (h : behindMainWord (wordsSigns P.initOrder.toList) = "cut".toList :: r) : P.liftsFinal = false := by
  have e3 : (some "cut".toList == some "carried".toList) = false := by decide +kernel
  simp only [Program.liftsFinal, h, heads_of P r h, List.head?_cons, e3]
  rfl
theorem makes_of (P : Program) (r : List (List Char)) (h : behindMainWord (wordsSigns P.initOrder.toList) = "cut".toList :: r) : P.make = some .cut := by
  have e1 : ("cut".toList == "gc".toList) = false := by decide +kernel
  have e2 : ("cut".toList == "spec".toList) = false := by decide +kernel
  simp only [Program.make, h, e1, e2]
  simp
theorem enters : Try.prog.mayEnter = true := by obtain ⟨r, h⟩ := split; exact enters_of _ r h lays bears door
theorem lifts : Try.prog.liftsFinal = false := by obtain ⟨r, h⟩ := split; exact lifts_of _ r h
theorem makes : Try.prog.make = some .cut := by obtain ⟨r, h⟩ := split; exact makes_of _ r h
theorem plains : Try.prog.plainKeys = true := by kernel_rfl
theorem laid : laidOutB Try.prog = true := by kernel_rfl
theorem rowed : mapsRowed Try.prog = true := by kernel_rfl
theorem noStops : (Try.prog.stops == []) = true := by kernel_rfl
theorem noKnobs : (Try.prog.stopKnobs == []) = true := by kernel_rfl
theorem heard : Try.prog.stopsHeard = true := by kernel_rfl
theorem owned : ownKnob Try.prog.godebug = none := by kernel_rfl
theorem and_mk {a b : Bool} (ha : a = true) (hb : b = true) : (a && b) = true := by rw [ha, hb]; rfl
theorem inPlace_none (P : Program) (f : FuncId) (h : ((P.closure f).all fun g => (P.funcs[g]?).all fun fn => !(fn.ours || fn.body.isNone || fn.name == "runtime.NumGoroutine")) = true) : P.inPlace f = [] := by
  unfold Program.inPlace
  rw [List.filterMap_eq_nil_iff]
  intro g hg
  have h1 := List.all_eq_true.1 h g hg
  cases hf : P.funcs[g]? with
  | none => rfl
  | some fn =>
    rw [hf] at h1
    simp only [Option.all_some, Bool.not_eq_true'] at h1
    simp only [Option.bind_some, h1]
    rfl
end Go.Proofs.Ytandenkoejbloaa
