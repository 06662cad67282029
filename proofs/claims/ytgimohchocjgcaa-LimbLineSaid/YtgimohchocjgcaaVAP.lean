/- Calls of what the model stands in for: math/bits.Add64 and Sub64. -/
import Derived.Test.YtgimohchocjgcaaVAO
import Derived.Shelf.Spec.BitsCarry
import Derived.KernelRfl
set_option linter.unusedVariables false
set_option linter.unusedSimpArgs false
namespace Go.Proofs.Ytgimohchocjgcaa.V

def addS (x y c : UInt64) : UInt64 := UInt64.ofNat ((x.toNat + y.toNat + c.toNat) % 18446744073709551616)
def addC (x y c : UInt64) : UInt64 := UInt64.ofNat ((x.toNat + y.toNat + c.toNat) / 18446744073709551616)
def subS (x y c : UInt64) : UInt64 := UInt64.ofNat ((x.toNat + 18446744073709551616 - y.toNat - c.toNat) % 18446744073709551616)
def subC (x y c : UInt64) : UInt64 := cond (ltN x.toNat (y.toNat + c.toNat)) 1 0

def sg3 (f : UInt64 → UInt64 → UInt64 → Option (UInt64 × UInt64)) : Sg := ⟨UInt64 × UInt64, 0, fun us => match us with
  | [.c (.u64 x), .c (.u64 y), .c (.u64 c)] => f x y c
  | _ => none, fun r => .tup [.c (.u64 r.1), .c (.u64 r.2)]⟩

def kAdd (x y c : UInt64) : Option (UInt64 × UInt64) := cond (leN c.toNat 1) (some (addS x y c, addC x y c)) none
def kSub (x y c : UInt64) : Option (UInt64 × UInt64) := cond (leN c.toNat 1) (some (subS x y c, subC x y c)) none

theorem sg3_args {f : UInt64 → UInt64 → UInt64 → Option (UInt64 × UInt64)} {us : List U} {r : UInt64 × UInt64} (h : (sg3 f).run us = some r) : ∃ x y c, us = [.c (.u64 x), .c (.u64 y), .c (.u64 c)] ∧ f x y c = some r := by
  simp only [sg3] at h
  split at h
  · rename_i x y c; exact ⟨x, y, c, rfl, h⟩
  · cases h

theorem sc_of {w : World} {ok : Nat → Prop} {c : C} {v u : Value} (hu : c.val = some u) (h : Holds w ok c v) : v = u := by
  cases h with
  | sc h => rw [hu] at h; cases h; rfl
  | ro => cases hu
  | emp => cases hu

theorem sg3_vals {w : World} {ok : Nat → Prop} {x y c : UInt64} {vs : List Value} (h : HoldsUs w ok [.c (.u64 x), .c (.u64 y), .c (.u64 c)] vs) : vs = [.int .u64 x.toNat, .int .u64 y.toNat, .int .u64 c.toNat] := by
  match vs, h with
  | [a, b, d], ⟨h1, h2, h3, _⟩ =>
    rw [sc_of rfl h1, sc_of rfl h2, sc_of rfl h3]

theorem ext_ok {P : Program} {f : FuncId} {vs : List Value} {w : World} {R : Value → World → Prop} {v : Value} (h : (callFunc f vs.toArray).run P w = .ok (.value v) w) (hv : R v w) : CallsTo P f vs.toArray w R := by
  intro o a K Q hK
  rw [h]
  exact hK v w hv

theorem pair_own {els : List (Nat × El)} {w : World} (x y : UInt64) : OwnV els w (fun b => w.heap.size ≤ b) (.tup [.c (.u64 x), .c (.u64 y)]) (.tuple #[.int .u64 x.toNat, .int .u64 y.toNat]) :=
  ⟨#[.int .u64 x.toNat, .int .u64 y.toNat], [], rfl, [.int .u64 x.toNat, .int .u64 y.toNat], .c (.c .nil), .sc rfl (.sc rfl .nil)⟩

theorem kept_self (w : World) : Kept w w := ⟨rfl, rfl, rfl, Nat.le_refl _, fun _ _ => rfl⟩

theorem ofN (n : Nat) (h : n < 18446744073709551616) : (UInt64.ofNat n).toNat = n := by simp; omega

theorem add64_ok {P : Program} {els : List (Nat × El)} {f : FuncId} {fn : Func} (hf : P.funcs[f]? = some fn) (h1 : (fn.name == "runtime.NumGoroutine") = false) (h2 : fn.body.isNone = true) (h3 : Extern.findNext fn = none) (h4 : Extern.find fn = some add64Entry) : SgOK P els f (sg3 kAdd) := by
  refine ⟨fun _ => ?_, fun h => absurd rfl h⟩
  intro us r hr w vs ok _ hh
  obtain ⟨x, y, c, rfl, hc⟩ := sg3_args hr
  obtain ⟨hc1, hc2⟩ := cond_some hc
  cases hc2
  have hc1' : c.toNat ≤ 1 := by simpa [leN] using hc1
  have hx := UInt64.toNat_lt x
  have hy := UInt64.toNat_lt y
  rw [sg3_vals hh]
  refine ext_ok (v := .tuple #[.int .u64 (addS x y c).toNat, .int .u64 (addC x y c).toNat]) ?_ ⟨pair_own _ _, kept_self w⟩
  rw [run_callFunc_extern hf h1 h2 h3 h4, run_add64 _ _ _ (by omega) (by omega) (by omega) (by omega)]
  simp only [Result.andThen]
  rw [addS, addC, ofN _ (Nat.mod_lt _ (by decide)), ofN _ (by omega)]
  congr 5

theorem sub64_ok {P : Program} {els : List (Nat × El)} {f : FuncId} {fn : Func} (hf : P.funcs[f]? = some fn) (h1 : (fn.name == "runtime.NumGoroutine") = false) (h2 : fn.body.isNone = true) (h3 : Extern.findNext fn = none) (h4 : Extern.find fn = some sub64Entry) : SgOK P els f (sg3 kSub) := by
  refine ⟨fun _ => ?_, fun h => absurd rfl h⟩
  intro us r hr w vs ok _ hh
  obtain ⟨x, y, c, rfl, hc⟩ := sg3_args hr
  obtain ⟨hc1, hc2⟩ := cond_some hc
  cases hc2
  have hc1' : c.toNat ≤ 1 := by simpa [leN] using hc1
  rw [sg3_vals hh]
  refine ext_ok (v := .tuple #[.int .u64 (subS x y c).toNat, .int .u64 (subC x y c).toNat]) ?_ ⟨pair_own _ _, kept_self w⟩
  rw [run_callFunc_extern hf h1 h2 h3 h4, run_sub64 _ _ _ hc1']
  simp only [Result.andThen]
  rw [subS, subC, ofN _ (Nat.mod_lt _ (by decide))]
  congr 6
  cases hb : ltN x.toNat (y.toNat + c.toNat) with
  | true => simp only [ltN, decide_eq_true_eq] at hb; simp [hb]
  | false => simp only [ltN, decide_eq_false_iff_not] at hb; simp [hb]

end Go.Proofs.Ytgimohchocjgcaa.V
