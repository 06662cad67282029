/- Facts on how the program begins. -/
import Derived.Test.YtgimohchocjgcaaRows
import Derived.JoinedOf
import Derived.KernelRfl
set_option linter.unusedVariables false
set_option linter.unusedSimpArgs false
namespace Go.Proofs.Ytgimohchocjgcaa.V

/-- The signs of the order of beginnings, as numbers. -/
def orderNums : List Nat := [
  104, 97, 114, 110, 101, 115, 115, 32, 55, 98, 57, 55, 98, 51, 48, 102, 57, 53, 56, 99, 97, 97, 57, 98, 55, 97, 51, 100, 100, 48, 49, 50, 102, 50, 49, 101, 99, 49, 52, 101, 51, 53, 54, 99, 53, 54, 49, 52, 50, 56, 98, 53, 57, 50, 52, 54, 53, 56, 100, 53, 52, 102, 97, 99, 52, 50, 54, 102, 50, 52, 57, 97, 32, 99, 117, 116, 32, 97, 116, 32, 105, 110, 116, 97, 103, 108, 105, 111, 47, 105, 110, 116, 97, 103, 108, 105, 111, 108, 97, 119, 49, 50, 46, 83, 104, 97, 75, 110, 111, 119, 110, 32, 105, 110, 116, 97, 103, 108, 105, 111, 47, 105, 110, 116, 97, 103, 108, 105, 111, 108, 97, 119, 49, 50, 46, 83, 104, 97, 65, 108, 108, 32, 105, 110, 116, 97, 103, 108, 105, 111, 47, 105, 110, 116, 97, 103, 108, 105, 111, 108, 97, 119, 49, 50, 46, 83, 104, 97, 80, 97, 100, 115, 32, 105, 110, 116, 97, 103, 108, 105, 111, 47, 105, 110, 116, 97, 103, 108, 105, 111, 108, 97, 119, 49, 46, 76, 105, 109, 98, 82,
  101, 115, 116, 115, 32, 105, 110, 116, 97, 103, 108, 105, 111, 47, 105, 110, 116, 97, 103, 108, 105, 111, 108, 97, 119, 49, 46, 76, 105, 109, 98, 83, 104, 105, 102, 116, 115, 32, 105, 110, 116, 97, 103, 108, 105, 111, 47, 105, 110, 116, 97, 103, 108, 105, 111, 108, 97, 119, 49, 46, 76, 105, 109, 98, 66, 121, 116, 101, 115, 32, 105, 110, 116, 97, 103, 108, 105, 111, 47, 105, 110, 116, 97, 103, 108, 105, 111, 108, 97, 119, 49, 46, 76, 105, 109, 98, 66, 97, 99, 107, 32, 105, 110, 116, 97, 103, 108, 105, 111, 47, 105, 110, 116, 97, 103, 108, 105, 111, 108, 97, 119, 49, 46, 76, 105, 109, 98, 65, 108, 108, 32, 105, 110, 116, 97, 103, 108, 105, 111, 47, 105, 110, 116, 97, 103, 108, 105, 111, 108, 97, 119, 49, 46, 76, 105, 109, 98, 82, 105, 110, 103, 32, 105, 110, 116, 97, 103, 108, 105, 111, 47, 105, 110, 116, 97, 103, 108, 105, 111, 108, 97, 119, 49, 46, 76, 105, 109, 98, 76, 105, 110, 101, 32, 105, 110, 116, 97, 103, 108, 105,
  111, 47, 105, 110, 116, 97, 103, 108, 105, 111, 108, 97, 119, 50, 46, 70, 114, 80, 111, 119, 101, 114, 115, 32, 105, 110, 116, 97, 103, 108, 105, 111, 47, 105, 110, 116, 97, 103, 108, 105, 111, 108, 97, 119, 50, 46, 70, 114, 69, 120, 112, 111, 110, 101, 110, 116, 115, 32, 105, 110, 116, 97, 103, 108, 105, 111, 47, 105, 110, 116, 97, 103, 108, 105, 111, 108, 97, 119, 50, 46, 70, 114, 82, 111, 111, 116, 115, 32, 105, 110, 116, 97, 103, 108, 105, 111, 47, 105, 110, 116, 97, 103, 108, 105, 111, 108, 97, 119, 50, 46, 70, 114, 65, 108, 108, 32, 105, 110, 116, 97, 103, 108, 105, 111, 47, 105, 110, 116, 97, 103, 108, 105, 111, 108, 97, 119, 50, 46, 70, 114, 70, 105, 101, 108, 100, 32, 105, 110, 116, 97, 103, 108, 105, 111, 47, 105, 110, 116, 97, 103, 108, 105, 111, 108, 97, 119, 50, 54, 46, 80, 101, 114, 109, 65, 108, 108, 32, 105, 110, 116, 97, 103, 108, 105, 111, 47, 105, 110, 116, 97, 103, 108, 105, 111, 108, 97, 119, 50, 54, 46,
  80, 101, 114, 109, 67, 104, 97, 110, 99, 101, 32, 105, 110, 116, 97, 103, 108, 105, 111, 47, 105, 110, 116, 97, 103, 108, 105, 111, 108, 97, 119, 50, 54, 46, 80, 101, 114, 109, 67, 108, 111, 115, 101, 115, 32, 105, 110, 116, 97, 103, 108, 105, 111, 47, 105, 110, 116, 97, 103, 108, 105, 111, 108, 97, 119, 50, 54, 46, 80, 101, 114, 109, 83, 119, 97, 112, 115, 32, 105, 110, 116, 97, 103, 108, 105, 111, 47, 105, 110, 116, 97, 103, 108, 105, 111, 108, 97, 119, 49, 51, 46, 84, 97, 108, 107, 83, 97, 109, 101, 32, 105, 110, 116, 97, 103, 108, 105, 111, 47, 105, 110, 116, 97, 103, 108, 105, 111, 108, 97, 119, 50, 48, 46, 71, 97, 116, 101, 86, 97, 108, 117, 101, 115, 32, 105, 110, 116, 97, 103, 108, 105, 111, 47, 105, 110, 116, 97, 103, 108, 105, 111, 108, 97, 119, 50, 48, 46, 71, 97, 116, 101, 72, 111, 108, 100, 115, 32, 105, 110, 116, 97, 103, 108, 105, 111, 47, 105, 110, 116, 97, 103, 108, 105, 111, 108, 97, 119, 50, 48, 46,
  71, 97, 116, 101, 83, 117, 109, 115, 32, 105, 110, 116, 97, 103, 108, 105, 111, 47, 105, 110, 116, 97, 103, 108, 105, 111, 108, 97, 119, 49, 51, 46, 84, 97, 108, 107, 65, 108, 108, 32, 105, 110, 116, 97, 103, 108, 105, 111, 47, 105, 110, 116, 97, 103, 108, 105, 111, 108, 97, 119, 50, 49, 46, 66, 117, 105, 108, 100, 65, 108, 108, 32, 105, 110, 116, 97, 103, 108, 105, 111, 47, 105, 110, 116, 97, 103, 108, 105, 111, 108, 97, 119, 50, 49, 46, 66, 117, 105, 108, 100, 77, 111, 115, 116, 32, 105, 110, 116, 97, 103, 108, 105, 111, 47, 105, 110, 116, 97, 103, 108, 105, 111, 108, 97, 119, 50, 49, 46, 66, 117, 105, 108, 100, 80, 117, 98, 108, 105, 99, 32, 105, 110, 116, 97, 103, 108, 105, 111, 47, 105, 110, 116, 97, 103, 108, 105, 111, 108, 97, 119, 50, 46, 70, 114, 66, 121, 116, 101, 115, 32, 105, 110, 116, 97, 103, 108, 105, 111, 47, 105, 110, 116, 97, 103, 108, 105, 111, 108, 97, 119, 50, 49, 46, 66, 117, 105, 108, 100, 83, 97,
  109, 101, 32, 105, 110, 116, 97, 103, 108, 105, 111, 47, 105, 110, 116, 97, 103, 108, 105, 111, 108, 97, 119, 50, 50, 46, 87, 105, 114, 101, 65, 108, 108, 32, 105, 110, 116, 97, 103, 108, 105, 111, 47, 105, 110, 116, 97, 103, 108, 105, 111, 108, 97, 119, 50, 50, 46, 87, 105, 114, 101, 77, 97, 100, 101, 32, 105, 110, 116, 97, 103, 108, 105, 111, 47, 105, 110, 116, 97, 103, 108, 105, 111, 108, 97, 119, 50, 50, 46, 87, 105, 114, 101, 78, 97, 109, 101, 115, 32, 105, 110, 116, 97, 103, 108, 105, 111, 47, 105, 110, 116, 97, 103, 108, 105, 111, 108, 97, 119, 50, 50, 46, 87, 105, 114, 101, 82, 105, 110, 103, 115, 32, 105, 110, 116, 97, 103, 108, 105, 111, 47, 105, 110, 116, 97, 103, 108, 105, 111, 108, 97, 119, 50, 50, 46, 87, 105, 114, 101, 77, 101, 114, 103, 101, 115, 32, 105, 110, 116, 97, 103, 108, 105, 111, 47, 105, 110, 116, 97, 103, 108, 105, 111, 108, 97, 119, 50, 52, 46, 67, 105, 114, 99, 66, 97, 99, 107, 32, 105, 110,
  116, 97, 103, 108, 105, 111, 47, 105, 110, 116, 97, 103, 108, 105, 111, 108, 97, 119, 50, 52, 46, 67, 105, 114, 99, 76, 111, 110, 103, 32, 105, 110, 116, 97, 103, 108, 105, 111, 47, 105, 110, 116, 97, 103, 108, 105, 111, 108, 97, 119, 50, 51, 46, 69, 118, 97, 108, 65, 108, 108, 32, 105, 110, 116, 97, 103, 108, 105, 111, 47, 105, 110, 116, 97, 103, 108, 105, 111, 108, 97, 119, 50, 51, 46, 69, 118, 97, 108, 66, 117, 105, 108, 116, 32, 105, 110, 116, 97, 103, 108, 105, 111, 47, 105, 110, 116, 97, 103, 108, 105, 111, 108, 97, 119, 50, 51, 46, 69, 118, 97, 108, 70, 105, 114, 115, 116]

def orderSigns : List Char := orderNums.map Char.ofNat

theorem order_is : Try.prog.initOrder = String.ofList orderSigns := by kernel_rfl

theorem order_list : Try.prog.initOrder.toList = orderSigns := by rw [order_is, String.toList_ofList]

def cutWord : List Char := [Char.ofNat 99, Char.ofNat 117, Char.ofNat 116]

def restWords : List (List Char) := (behindMainWord (wordsSigns orderSigns)).tail

theorem words_cons {l : List (List Char)} {w : List Char} (h : l.head? = some w) : l = w :: l.tail := by
  cases l with
  | nil => cases h
  | cons a l => simp at h; rw [h]; rfl

theorem head_is : (behindMainWord (wordsSigns orderSigns)).head? = some cutWord := by kernel_rfl

theorem words_is : behindMainWord (wordsSigns Try.prog.initOrder.toList) = cutWord :: restWords := by
  rw [order_list]; exact words_cons head_is

theorem strip_cut (R : List (List Char)) : stripLifts liftWords (cutWord :: R) = ([], cutWord :: R) := by kernel_rfl

theorem not_gc : (cutWord == "gc".toList) = false := by kernel_rfl
theorem not_spec : (cutWord == "spec".toList) = false := by kernel_rfl
theorem not_carried : (cutWord == "carried".toList) = false := by kernel_rfl
theorem is_cut : (some cutWord == some "cut".toList) = true := by kernel_rfl
theorem is_cut1 : (cutWord == "cut".toList) = true := by kernel_rfl
theorem not_carried1 : (some cutWord == some "carried".toList) = false := by kernel_rfl
theorem lays : Try.prog.laysLater = false := by kernel_rfl
theorem bears : Try.prog.bearsReflect = false := by kernel_rfl
theorem door : Try.prog.doorFits [] = true := by kernel_rfl

theorem mayEnter_of {P : Program} {R : List (List Char)} (h : behindMainWord (wordsSigns P.initOrder.toList) = cutWord :: R) (h1 : P.laysLater = false) (h2 : P.bearsReflect = false) (h3 : P.doorFits [] = true) : P.mayEnter = true := by
  unfold Program.mayEnter
  rw [h]
  simp only [strip_cut, not_gc, not_spec, not_carried, is_cut, List.head?_cons, h1, h2, h3]
  rfl

theorem headLifts_of {P : Program} {R : List (List Char)} (h : behindMainWord (wordsSigns P.initOrder.toList) = cutWord :: R) : P.headLifts = [] := by
  unfold Program.headLifts
  rw [h]
  simp only [strip_cut, List.head?_cons, is_cut]
  rfl

theorem liftsFinal_of {P : Program} {R : List (List Char)} (h : behindMainWord (wordsSigns P.initOrder.toList) = cutWord :: R) : P.liftsFinal = false := by
  have h2 := headLifts_of h
  unfold Program.liftsFinal
  rw [h, h2]
  simp only [List.head?_cons, not_carried1]
  rfl

theorem make_of {P : Program} {R : List (List Char)} (h : behindMainWord (wordsSigns P.initOrder.toList) = cutWord :: R) : P.make = some .cut := by
  unfold Program.make
  rw [h]
  simp only [not_gc, not_spec, is_cut1]
  rfl

theorem may_enter : Try.prog.mayEnter = true := mayEnter_of words_is lays bears door
theorem lifts_final : Try.prog.liftsFinal = false := liftsFinal_of words_is
theorem make_is : Try.prog.make = some .cut := make_of words_is

theorem both {a b : Bool} (ha : a = true) (hb : b = true) : (a && b) = true := by rw [ha, hb]; rfl

end Go.Proofs.Ytgimohchocjgcaa.V
