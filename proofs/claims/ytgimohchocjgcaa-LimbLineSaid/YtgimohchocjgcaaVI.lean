/- Operations on numbers: they come to what the evaluator says. -/
import Derived.Test.YtgimohchocjgcaaVH
set_option linter.unusedVariables false
set_option linter.unusedSimpArgs false
namespace Go.Proofs.Ytgimohchocjgcaa.V

theorem beq_bytes (x y : List UInt8) : ((⟨x.toArray⟩ : ByteArray).toList == (⟨y.toArray⟩ : ByteArray).toList) = eqB x y := by
  rw [ByteArray.toList_eq, ByteArray.toList_eq, eqB, Bool.eq_iff_iff]
  simp

def okI (k : IntKind) (w : World) (n : Int) : Result Value := .ok (.int k n) w
def okB (w : World) (b : Bool) : Result Value := .ok (.bool b) w

theorem run_shift {P : Program} {w : World} (op : BinOp) (k yk : IntKind) (x : Int) (n : Nat) (h : op = .shl ∨ op = .shr) :
    (Op.shift op k x yk n).run P w = if op = .shl then okI k w (k.wrap (x * 2 ^ min n k.bits)) else okI k w (x.fdiv (2 ^ min n k.bits)) := by
  have h0 : ¬ ((n : Int) < 0) := by omega
  rcases h with rfl | rfl <;> simp [Op.shift, h0, okI]

theorem eqIb (x y : Int) : (x == y) = eqI x y := by rw [eqI, Bool.eq_iff_iff]; simp

set_option maxHeartbeats 1000000 in
theorem bin_ok {P : Program} (t : TypeId) (x y : Operand) (w : World) {op : BinOp} {a b c : C} {va vb : Value} (h : binC op a b = some c) (ha : a.val = some va) (hb : b.val = some vb)
    (ht : ∀ p q, a = .bool p → b = .bool q → P.underlying t = some .bool) :
    ∃ v, c.val = some v ∧ (do eqGuard op t x y va vb; binOp op t va vb : Sem Value).run P w = .ok v w := by
  unfold binC at h
  split at h
  case h_1 x y =>
    simp only [C.val, Option.some.injEq] at ha hb
    subst ha; subst hb
    split at h
    case h_1 => injection h with h; subst h; exact ⟨_, rfl, congrArg (okI .u64 w) (add64 x y)⟩
    case h_2 => injection h with h; subst h; exact ⟨_, rfl, congrArg (okI .u64 w) (sub64 x y)⟩
    case h_3 => injection h with h; subst h; exact ⟨_, rfl, congrArg (okI .u64 w) (mul64 x y)⟩
    case h_4 => injection h with h; subst h; exact ⟨_, rfl, congrArg (okI .u64 w) (by rw [bv64, bv64, back64]; rfl : IntKind.u64.wrap (BitVec.toNat (BitVec.ofInt 64 (x.toNat : Int) &&& BitVec.ofInt 64 (y.toNat : Int))) = (((x &&& y).toNat : Nat) : Int))⟩
    case h_5 => injection h with h; subst h; exact ⟨_, rfl, congrArg (okI .u64 w) (by rw [bv64, bv64, back64]; rfl : IntKind.u64.wrap (BitVec.toNat (BitVec.ofInt 64 (x.toNat : Int) ||| BitVec.ofInt 64 (y.toNat : Int))) = (((x ||| y).toNat : Nat) : Int))⟩
    case h_6 => injection h with h; subst h; exact ⟨_, rfl, congrArg (okI .u64 w) (by rw [bv64, bv64, back64]; rfl : IntKind.u64.wrap (BitVec.toNat (BitVec.ofInt 64 (x.toNat : Int) ^^^ BitVec.ofInt 64 (y.toNat : Int))) = (((x ^^^ y).toNat : Nat) : Int))⟩
    case h_7 => injection h with h; subst h; exact ⟨_, rfl, by rw [show (do eqGuard BinOp.shl t _ _ (.int .u64 x.toNat) (.int .u64 y.toNat); binOp .shl t (.int .u64 x.toNat) (.int .u64 y.toNat) : Sem Value) = Op.shift .shl .u64 x.toNat .u64 y.toNat from rfl, run_shift _ _ _ _ _ (.inl rfl), if_pos rfl]; exact congrArg (okI .u64 w) (shl64_ok x y.toNat)⟩
    case h_8 => injection h with h; subst h; exact ⟨_, rfl, by rw [show (do eqGuard BinOp.shr t _ _ (.int .u64 x.toNat) (.int .u64 y.toNat); binOp .shr t (.int .u64 x.toNat) (.int .u64 y.toNat) : Sem Value) = Op.shift .shr .u64 x.toNat .u64 y.toNat from rfl, run_shift _ _ _ _ _ (.inr rfl), if_neg (by decide)]; exact congrArg (okI .u64 w) (shr64_ok x y.toNat)⟩
    case h_9 => injection h with h; subst h; exact ⟨_, rfl, congrArg (okB w) (beq64 x y)⟩
    case h_10 => injection h with h; subst h; exact ⟨_, rfl, congrArg (okB w) (congrArg Bool.not (beq64 x y))⟩
    case h_11 => injection h with h; subst h; exact ⟨_, rfl, congrArg (okB w) (lt_cast x.toNat y.toNat)⟩
    case h_12 => injection h with h; subst h; exact ⟨_, rfl, congrArg (okB w) (le_cast x.toNat y.toNat)⟩
    case h_13 => injection h with h; subst h; exact ⟨_, rfl, congrArg (okB w) (lt_cast y.toNat x.toNat)⟩
    case h_14 => injection h with h; subst h; exact ⟨_, rfl, congrArg (okB w) (le_cast y.toNat x.toNat)⟩
    case h_15 => cases h
  case h_2 x y =>
    simp only [C.val, Option.some.injEq] at ha hb
    subst ha; subst hb
    split at h
    case h_1 => injection h with h; subst h; exact ⟨_, rfl, congrArg (okI .u32 w) (add32 x y)⟩
    case h_2 => injection h with h; subst h; exact ⟨_, rfl, congrArg (okI .u32 w) (sub32 x y)⟩
    case h_3 => injection h with h; subst h; exact ⟨_, rfl, congrArg (okI .u32 w) (mul32 x y)⟩
    case h_4 => injection h with h; subst h; exact ⟨_, rfl, congrArg (okI .u32 w) (by rw [bv32, bv32, back32]; rfl : IntKind.u32.wrap (BitVec.toNat (BitVec.ofInt 32 (x.toNat : Int) &&& BitVec.ofInt 32 (y.toNat : Int))) = (((x &&& y).toNat : Nat) : Int))⟩
    case h_5 => injection h with h; subst h; exact ⟨_, rfl, congrArg (okI .u32 w) (by rw [bv32, bv32, back32]; rfl : IntKind.u32.wrap (BitVec.toNat (BitVec.ofInt 32 (x.toNat : Int) ||| BitVec.ofInt 32 (y.toNat : Int))) = (((x ||| y).toNat : Nat) : Int))⟩
    case h_6 => injection h with h; subst h; exact ⟨_, rfl, congrArg (okI .u32 w) (by rw [bv32, bv32, back32]; rfl : IntKind.u32.wrap (BitVec.toNat (BitVec.ofInt 32 (x.toNat : Int) ^^^ BitVec.ofInt 32 (y.toNat : Int))) = (((x ^^^ y).toNat : Nat) : Int))⟩
    case h_7 => injection h with h; subst h; exact ⟨_, rfl, congrArg (okB w) (beq32 x y)⟩
    case h_8 => injection h with h; subst h; exact ⟨_, rfl, congrArg (okB w) (congrArg Bool.not (beq32 x y))⟩
    case h_9 => injection h with h; subst h; exact ⟨_, rfl, congrArg (okB w) (lt_cast x.toNat y.toNat)⟩
    case h_10 => injection h with h; subst h; exact ⟨_, rfl, congrArg (okB w) (le_cast x.toNat y.toNat)⟩
    case h_11 => injection h with h; subst h; exact ⟨_, rfl, congrArg (okB w) (lt_cast y.toNat x.toNat)⟩
    case h_12 => injection h with h; subst h; exact ⟨_, rfl, congrArg (okB w) (le_cast y.toNat x.toNat)⟩
    case h_13 => cases h
  case h_3 x y =>
    simp only [C.val, Option.some.injEq] at ha hb
    subst ha; subst hb
    split at h
    case h_1 => injection h with h; subst h; exact ⟨_, rfl, congrArg (okI .u8 w) (add8 x y)⟩
    case h_2 => injection h with h; subst h; exact ⟨_, rfl, congrArg (okI .u8 w) (sub8 x y)⟩
    case h_3 => injection h with h; subst h; exact ⟨_, rfl, congrArg (okI .u8 w) (mul8 x y)⟩
    case h_4 => injection h with h; subst h; exact ⟨_, rfl, congrArg (okI .u8 w) (by rw [bv8, bv8, back8]; rfl : IntKind.u8.wrap (BitVec.toNat (BitVec.ofInt 8 (x.toNat : Int) &&& BitVec.ofInt 8 (y.toNat : Int))) = (((x &&& y).toNat : Nat) : Int))⟩
    case h_5 => injection h with h; subst h; exact ⟨_, rfl, congrArg (okI .u8 w) (by rw [bv8, bv8, back8]; rfl : IntKind.u8.wrap (BitVec.toNat (BitVec.ofInt 8 (x.toNat : Int) ||| BitVec.ofInt 8 (y.toNat : Int))) = (((x ||| y).toNat : Nat) : Int))⟩
    case h_6 => injection h with h; subst h; exact ⟨_, rfl, congrArg (okI .u8 w) (by rw [bv8, bv8, back8]; rfl : IntKind.u8.wrap (BitVec.toNat (BitVec.ofInt 8 (x.toNat : Int) ^^^ BitVec.ofInt 8 (y.toNat : Int))) = (((x ^^^ y).toNat : Nat) : Int))⟩
    case h_7 => injection h with h; subst h; exact ⟨_, rfl, congrArg (okB w) (beq8 x y)⟩
    case h_8 => injection h with h; subst h; exact ⟨_, rfl, congrArg (okB w) (congrArg Bool.not (beq8 x y))⟩
    case h_9 => injection h with h; subst h; exact ⟨_, rfl, congrArg (okB w) (lt_cast x.toNat y.toNat)⟩
    case h_10 => injection h with h; subst h; exact ⟨_, rfl, congrArg (okB w) (le_cast x.toNat y.toNat)⟩
    case h_11 => injection h with h; subst h; exact ⟨_, rfl, congrArg (okB w) (lt_cast y.toNat x.toNat)⟩
    case h_12 => injection h with h; subst h; exact ⟨_, rfl, congrArg (okB w) (le_cast y.toNat x.toNat)⟩
    case h_13 => cases h
  case h_4 x y =>
    simp only [C.val, Option.some.injEq] at ha hb
    subst ha; subst hb
    split at h
    case h_1 => injection h with h; subst h; exact ⟨_, rfl, rfl⟩
    case h_2 => injection h with h; subst h; exact ⟨_, rfl, rfl⟩
    case h_3 => injection h with h; subst h; exact ⟨_, rfl, rfl⟩
    case h_4 => injection h with h; subst h; exact ⟨_, rfl, rfl⟩
    case h_5 => injection h with h; subst h; exact ⟨_, rfl, rfl⟩
    case h_6 => injection h with h; subst h; exact ⟨_, rfl, rfl⟩
    case h_7 => injection h with h; subst h; exact ⟨_, rfl, congrArg (okB w) (eqIb x y)⟩
    case h_8 => injection h with h; subst h; exact ⟨_, rfl, congrArg (okB w) (congrArg Bool.not (eqIb x y))⟩
    case h_9 => injection h with h; subst h; exact ⟨_, rfl, rfl⟩
    case h_10 => injection h with h; subst h; exact ⟨_, rfl, rfl⟩
    case h_11 => injection h with h; subst h; exact ⟨_, rfl, rfl⟩
    case h_12 => injection h with h; subst h; exact ⟨_, rfl, rfl⟩
    case h_13 => cases h
  case h_5 x y =>
    have ht := ht x y rfl rfl
    simp only [C.val, Option.some.injEq] at ha hb
    subst ha; subst hb
    split at h
    case h_1 =>
      injection h with h; subst h; refine ⟨_, rfl, ?_⟩
      rw [show (do eqGuard BinOp.eql t _ _ (.bool x) (.bool y); binOp .eql t (.bool x) (.bool y) : Sem Value) = (do pure (.bool (← Op.equal t (.bool x) (.bool y)))) from rfl]
      rw [Op.equal, Op.maxDepth, Sem.run_bind, run_equalIn_bool' w 9999 t x y ht]; rfl
    case h_2 =>
      injection h with h; subst h; refine ⟨_, rfl, ?_⟩
      rw [show (do eqGuard BinOp.neq t _ _ (.bool x) (.bool y); binOp .neq t (.bool x) (.bool y) : Sem Value) = (do pure (.bool (!(← Op.equal t (.bool x) (.bool y))))) from rfl]
      rw [Op.equal, Op.maxDepth, Sem.run_bind, run_equalIn_bool' w 9999 t x y ht]; rfl
    case h_3 => cases h
  case h_6 x y =>
    simp only [C.val, Option.some.injEq] at ha hb
    subst ha; subst hb
    split at h
    case h_1 => injection h with h; subst h; exact ⟨_, rfl, congrArg (okB w) (beq_bytes x y)⟩
    case h_2 => injection h with h; subst h; exact ⟨_, rfl, congrArg (okB w) (congrArg Bool.not (beq_bytes x y))⟩
    case h_3 => cases h
  case h_7 x y =>
    simp only [C.val, Option.some.injEq] at ha hb
    subst ha; subst hb
    split at h
    case h_1 =>
      injection h with h; subst h; refine ⟨_, rfl, ?_⟩
      rw [show (do eqGuard BinOp.shl t _ _ (.int .u32 x.toNat) (.int .u64 y.toNat); binOp .shl t (.int .u32 x.toNat) (.int .u64 y.toNat) : Sem Value) = Op.shift .shl .u32 x.toNat .u64 y.toNat from rfl, run_shift _ _ _ _ _ (.inl rfl), if_pos rfl]; exact congrArg (okI .u32 w) (shl32_ok x y.toNat)
    case h_2 =>
      injection h with h; subst h; refine ⟨_, rfl, ?_⟩
      rw [show (do eqGuard BinOp.shr t _ _ (.int .u32 x.toNat) (.int .u64 y.toNat); binOp .shr t (.int .u32 x.toNat) (.int .u64 y.toNat) : Sem Value) = Op.shift .shr .u32 x.toNat .u64 y.toNat from rfl, run_shift _ _ _ _ _ (.inr rfl), if_neg (by decide)]; exact congrArg (okI .u32 w) (shr32_ok x y.toNat)
    case h_3 => cases h
  case h_8 x y =>
    simp only [C.val, Option.some.injEq] at ha hb
    subst ha; subst hb
    split at h
    case h_1 =>
      injection h with h; subst h; refine ⟨_, rfl, ?_⟩
      rw [show (do eqGuard BinOp.shl t _ _ (.int .u8 x.toNat) (.int .u64 y.toNat); binOp .shl t (.int .u8 x.toNat) (.int .u64 y.toNat) : Sem Value) = Op.shift .shl .u8 x.toNat .u64 y.toNat from rfl, run_shift _ _ _ _ _ (.inl rfl), if_pos rfl]; exact congrArg (okI .u8 w) (shl8_ok x y.toNat)
    case h_2 =>
      injection h with h; subst h; refine ⟨_, rfl, ?_⟩
      rw [show (do eqGuard BinOp.shr t _ _ (.int .u8 x.toNat) (.int .u64 y.toNat); binOp .shr t (.int .u8 x.toNat) (.int .u64 y.toNat) : Sem Value) = Op.shift .shr .u8 x.toNat .u64 y.toNat from rfl, run_shift _ _ _ _ _ (.inr rfl), if_neg (by decide)]; exact congrArg (okI .u8 w) (shr8_ok x y.toNat)
    case h_3 => cases h
  case h_9 x y =>
    simp only [C.val, Option.some.injEq] at ha hb
    subst ha; subst hb
    split at h
    case h_1 =>
      injection h with h; subst h; refine ⟨_, rfl, ?_⟩
      rw [show (do eqGuard BinOp.shl t _ _ (.int .i64 x) (.int .u64 y.toNat); binOp .shl t (.int .i64 x) (.int .u64 y.toNat) : Sem Value) = Op.shift .shl .i64 x .u64 y.toNat from rfl, run_shift _ _ _ _ _ (.inl rfl), if_pos rfl]; exact congrArg (okI .i64 w) (shlI_ok x y.toNat)
    case h_2 =>
      injection h with h; subst h; refine ⟨_, rfl, ?_⟩
      rw [show (do eqGuard BinOp.shr t _ _ (.int .i64 x) (.int .u64 y.toNat); binOp .shr t (.int .i64 x) (.int .u64 y.toNat) : Sem Value) = Op.shift .shr .i64 x .u64 y.toNat from rfl, run_shift _ _ _ _ _ (.inr rfl), if_neg (by decide)]; exact congrArg (okI .i64 w) (shrI_ok x y.toNat)
    case h_3 => cases h
  case h_10 => cases h

end Go.Proofs.Ytgimohchocjgcaa.V
