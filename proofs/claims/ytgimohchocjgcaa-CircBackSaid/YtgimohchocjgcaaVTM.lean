import Derived.Test.YtgimohchocjgcaaVME
import Derived.Test.YtgimohchocjgcaaProg
import Derived.KernelRfl
set_option linter.unusedVariables false
namespace Go.Proofs.Ytgimohchocjgcaa.V
section
def pd : PD := ⟨[
  (2, ⟨.int .i64, 1, 8, [.int 0]⟩),
  (3, ⟨.int .i64, 1, 8, [.int 0]⟩),
  (4, ⟨.bool, 1, 1, [.bool false]⟩),
  (5, ⟨.int .u8, 1, 1, [.u8 0]⟩),
  (9, ⟨.str, 1, 16, [.str []]⟩),
  (22, ⟨.arr 32 5, 32, 32, List.replicate 32 (.u8 0)⟩),
  (24, ⟨.slice 5, 1, 24, [.ro .u8 []]⟩),
  (27, ⟨.int .u32, 1, 4, [.u32 0]⟩),
  (28, ⟨.arr 8 27, 8, 32, List.replicate 8 (.u32 0)⟩),
  (29, ⟨.arr 64 5, 64, 64, List.replicate 64 (.u8 0)⟩),
  (34, ⟨.int .u64, 1, 8, [.u64 0]⟩),
  (37, ⟨.slice 42, 1, 24, [.ro .u64 []]⟩),
  (38, ⟨.int .i64, 1, 8, [.int 0]⟩),
  (42, ⟨.int .u64, 1, 8, [.u64 0]⟩),
  (52, ⟨.arr 4 42, 4, 32, [.u64 0, .u64 0, .u64 0, .u64 0]⟩),
  (53, ⟨.arr 4 42, 4, 32, [.u64 0, .u64 0, .u64 0, .u64 0]⟩),
  (69, ⟨.slice 53, 1, 24, [.ro .fr []]⟩),
  (70, ⟨.arr 3 69, 3, 72, [.ro .fr [], .ro .fr [], .ro .fr []]⟩),
  (77, ⟨.slice 116, 1, 24, [.ro .row []]⟩),
  (78, ⟨.slice 158, 1, 24, [.ro .pair []]⟩),
  (79, ⟨.struct [(0, 3), (1, 3), (2, 77), (3, 78)], 4, 64, [.int 0, .int 0, .ro .row [], .ro .pair []]⟩),
  (80, ⟨.struct [(0, 3), (1, 3), (2, 77), (3, 78)], 4, 64, [.int 0, .int 0, .ro .row [], .ro .pair []]⟩),
  (81, ⟨.slice 112, 1, 24, [.ro .step []]⟩),
  (82, ⟨.struct [(0, 80), (4, 69), (5, 69), (6, 81)], 7, 136, [.int 0, .int 0, .ro .row [], .ro .pair [], .ro .fr [], .ro .fr [], .ro .step []]⟩),
  (83, ⟨.struct [(0, 80), (4, 69), (5, 69), (6, 81)], 7, 136, [.int 0, .int 0, .ro .row [], .ro .pair [], .ro .fr [], .ro .fr [], .ro .step []]⟩),
  (85, ⟨.arr 8 69, 8, 192, List.replicate 8 (.ro .fr [])⟩),
  (86, ⟨.struct [(0, 3), (1, 85), (9, 70), (12, 70)], 15, 344, [.int 0, .ro .fr [], .ro .fr [], .ro .fr [], .ro .fr [], .ro .fr [], .ro .fr [], .ro .fr [], .ro .fr [], .ro .fr [], .ro .fr [], .ro .fr [], .ro .fr [], .ro .fr [], .ro .fr []]⟩),
  (87, ⟨.struct [(0, 3), (1, 85), (9, 70), (12, 70)], 15, 344, [.int 0, .ro .fr [], .ro .fr [], .ro .fr [], .ro .fr [], .ro .fr [], .ro .fr [], .ro .fr [], .ro .fr [], .ro .fr [], .ro .fr [], .ro .fr [], .ro .fr [], .ro .fr [], .ro .fr []]⟩),
  (93, ⟨.arr 12 53, 48, 384, List.replicate 48 (.u64 0)⟩),
  (96, ⟨.slice 101, 1, 24, [.ro .u8 []]⟩),
  (98, ⟨.ptr 124, 1, 8, [.nilp]⟩),
  (100, ⟨.struct [(0, 4), (1, 5), (2, 24)], 3, 32, [.bool false, .u8 0, .ro .u8 []]⟩),
  (101, ⟨.struct [(0, 4), (1, 5), (2, 24)], 3, 32, [.bool false, .u8 0, .ro .u8 []]⟩),
  (106, ⟨.arr 8 53, 32, 256, List.replicate 32 (.u64 0)⟩),
  (109, ⟨.arr 5 53, 20, 160, List.replicate 20 (.u64 0)⟩),
  (110, ⟨.arr 3 3, 3, 24, [.int 0, .int 0, .int 0]⟩),
  (111, ⟨.struct [(0, 3), (1, 110), (4, 109)], 24, 192, [.int 0, .int 0, .int 0, .int 0, .u64 0, .u64 0, .u64 0, .u64 0, .u64 0, .u64 0, .u64 0, .u64 0, .u64 0, .u64 0, .u64 0, .u64 0, .u64 0, .u64 0, .u64 0, .u64 0, .u64 0, .u64 0, .u64 0, .u64 0]⟩),
  (112, ⟨.struct [(0, 3), (1, 110), (4, 109)], 24, 192, [.int 0, .int 0, .int 0, .int 0, .u64 0, .u64 0, .u64 0, .u64 0, .u64 0, .u64 0, .u64 0, .u64 0, .u64 0, .u64 0, .u64 0, .u64 0, .u64 0, .u64 0, .u64 0, .u64 0, .u64 0, .u64 0, .u64 0, .u64 0]⟩),
  (115, ⟨.struct [(0, 106), (32, 110)], 35, 280, [.u64 0, .u64 0, .u64 0, .u64 0, .u64 0, .u64 0, .u64 0, .u64 0, .u64 0, .u64 0, .u64 0, .u64 0, .u64 0, .u64 0, .u64 0, .u64 0, .u64 0, .u64 0, .u64 0, .u64 0, .u64 0, .u64 0, .u64 0, .u64 0, .u64 0, .u64 0, .u64 0, .u64 0, .u64 0, .u64 0, .u64 0, .u64 0, .int 0, .int 0, .int 0]⟩),
  (116, ⟨.struct [(0, 106), (32, 110)], 35, 280, [.u64 0, .u64 0, .u64 0, .u64 0, .u64 0, .u64 0, .u64 0, .u64 0, .u64 0, .u64 0, .u64 0, .u64 0, .u64 0, .u64 0, .u64 0, .u64 0, .u64 0, .u64 0, .u64 0, .u64 0, .u64 0, .u64 0, .u64 0, .u64 0, .u64 0, .u64 0, .u64 0, .u64 0, .u64 0, .u64 0, .u64 0, .u64 0, .int 0, .int 0, .int 0]⟩),
  (119, ⟨.ptr 122, 1, 8, [.nilp]⟩),
  (121, ⟨.struct [(0, 22)], 32, 32, [.u8 0, .u8 0, .u8 0, .u8 0, .u8 0, .u8 0, .u8 0, .u8 0, .u8 0, .u8 0, .u8 0, .u8 0, .u8 0, .u8 0, .u8 0, .u8 0, .u8 0, .u8 0, .u8 0, .u8 0, .u8 0, .u8 0, .u8 0, .u8 0, .u8 0, .u8 0, .u8 0, .u8 0, .u8 0, .u8 0, .u8 0, .u8 0]⟩),
  (122, ⟨.struct [(0, 22)], 32, 32, [.u8 0, .u8 0, .u8 0, .u8 0, .u8 0, .u8 0, .u8 0, .u8 0, .u8 0, .u8 0, .u8 0, .u8 0, .u8 0, .u8 0, .u8 0, .u8 0, .u8 0, .u8 0, .u8 0, .u8 0, .u8 0, .u8 0, .u8 0, .u8 0, .u8 0, .u8 0, .u8 0, .u8 0, .u8 0, .u8 0, .u8 0, .u8 0]⟩),
  (123, ⟨.struct [(0, 22)], 32, 32, [.u8 0, .u8 0, .u8 0, .u8 0, .u8 0, .u8 0, .u8 0, .u8 0, .u8 0, .u8 0, .u8 0, .u8 0, .u8 0, .u8 0, .u8 0, .u8 0, .u8 0, .u8 0, .u8 0, .u8 0, .u8 0, .u8 0, .u8 0, .u8 0, .u8 0, .u8 0, .u8 0, .u8 0, .u8 0, .u8 0, .u8 0, .u8 0]⟩),
  (124, ⟨.struct [(0, 22)], 32, 32, [.u8 0, .u8 0, .u8 0, .u8 0, .u8 0, .u8 0, .u8 0, .u8 0, .u8 0, .u8 0, .u8 0, .u8 0, .u8 0, .u8 0, .u8 0, .u8 0, .u8 0, .u8 0, .u8 0, .u8 0, .u8 0, .u8 0, .u8 0, .u8 0, .u8 0, .u8 0, .u8 0, .u8 0, .u8 0, .u8 0, .u8 0, .u8 0]⟩),
  (126, ⟨.ptr 136, 1, 8, [.nilp]⟩),
  (128, ⟨.ptr 130, 1, 8, [.nilp]⟩),
  (129, ⟨.struct [(0, 3), (1, 77), (2, 77), (3, 78)], 4, 80, [.int 0, .ro .row [], .ro .row [], .ro .pair []]⟩),
  (130, ⟨.struct [(0, 3), (1, 77), (2, 77), (3, 78)], 4, 80, [.int 0, .ro .row [], .ro .row [], .ro .pair []]⟩),
  (135, ⟨.struct [(0, 3), (1, 77), (2, 77), (3, 78)], 4, 80, [.int 0, .ro .row [], .ro .row [], .ro .pair []]⟩),
  (136, ⟨.struct [(0, 3), (1, 77), (2, 77), (3, 78)], 4, 80, [.int 0, .ro .row [], .ro .row [], .ro .pair []]⟩),
  (140, ⟨.slice 3, 1, 24, [.ro .int []]⟩),
  (148, ⟨.arr 3 140, 3, 72, [.ro .int [], .ro .int [], .ro .int []]⟩),
  (156, ⟨.slice 4, 1, 24, [.ro .bool []]⟩),
  (158, ⟨.arr 2 3, 2, 16, [.int 0, .int 0]⟩),
  (172, ⟨.arr 64 27, 64, 256, List.replicate 64 (.u32 0)⟩),
  (190, ⟨.ptr 3, 1, 8, [.nilp]⟩),
  (197, ⟨.ptr 199, 1, 8, [.nilp]⟩),
  (198, ⟨.struct [(0, 24), (1, 38)], 2, 32, [.ro .u8 [], .int 0]⟩),
  (199, ⟨.struct [(0, 24), (1, 38)], 2, 32, [.ro .u8 [], .int 0]⟩),
  (206, ⟨.arr 5 42, 5, 40, List.replicate 5 (.u64 0)⟩),
  (208, ⟨.ptr 83, 1, 8, [.nilp]⟩),
  (212, ⟨.arr 3 4, 3, 3, [.bool false, .bool false, .bool false]⟩),
  (213, ⟨.slice 77, 1, 24, [.ro .u64 []]⟩)],
  [(3, .int), (4, .bool), (5, .u8), (27, .u32), (42, .u64), (53, .fr), (112, .step), (116, .row), (158, .pair)]⟩
theorem ztX : pdB Try.prog pd = true := by kernel_rfl
theorem zaU : PDok Try.prog pd := zyX ztX
end
section
theorem zmf : SgOK Try.prog pd.els 164 (sg3 kAdd) := ztU Try.func164 (by kernel_rfl) (by kernel_rfl) (by kernel_rfl) (by kernel_rfl)
theorem zqw : SgOK Try.prog pd.els 159 (sg3 kSub) := ztV Try.func159 (by kernel_rfl) (by kernel_rfl) (by kernel_rfl) (by kernel_rfl)
end
section
def zqx (N : Nat) (A_2 : (List UInt64) -> Int -> Option (List UInt64 × Unit)) (a0 : List UInt64) (n3 : Int) : Option (List UInt64 × Unit) :=
  cond (hide (ltI (0 : Int) n3)) (must (leI (0 : Int) (hide (wr (n3 - (1 : Int)))) && ltI (hide (wr (n3 - (1 : Int)))) (↑a0.length : Int)) (cond (hide (List.getD a0 (Int.toNat (hide (wr (n3 - (1 : Int))))) (0 : UInt64) == (0 : UInt64))) (A_2 a0 (hide (wr (n3 - (1 : Int))))) (must (leI (0 : Int) n3 && leI n3 (↑a0.length : Int)) (must (leN (((0 : Nat) + List.length (List.take (Int.toNat (n3 - (0 : Int))) a0)) * (8 : Nat)) (140737488355328 : Nat)) (some ((List.take (Int.toNat (n3 - (0 : Int))) a0, ()))))))) (must (leI (0 : Int) n3 && leI n3 (↑a0.length : Int)) (must (leN (((0 : Nat) + List.length (List.take (Int.toNat (n3 - (0 : Int))) a0)) * (8 : Nat)) (140737488355328 : Nat)) (some ((List.take (Int.toNat (n3 - (0 : Int))) a0, ())))))
def zqy (N n : Nat) (a0 : List UInt64) (n3 : Int) : Option (List UInt64 × Unit) :=
  zar (fun A x => zqx N (fun a0 n3 => A ((a0, (n3, ())), ())) x.1.1 x.1.2.1) n ((a0, (n3, ())), ())
def p158 (N : Nat) (a0 : List UInt64) : Option (List UInt64 × Unit) :=
  zqy N N a0 ((↑a0.length : Int))
def g158 (N : Nat) : Sg := sgK [(K.ro .u64)] [(K.ro .u64)] fun x => p158 N x.1
def zyZ : List (Nat × Head) := [
    (2, ⟨⟨23, [(0, .u (.c (.ro .u64))), (3, .u (.c (.int)))], []⟩, .exit 0⟩)]
def zy0 (N : Nat) : List (Nat × Sg) := []
theorem zqz (N : Nat) : zaQ Try.prog pd.els (zy0 N) := trivial
theorem zqA (N : Nat) : SgOK Try.prog pd.els 158 (g158 N) :=
  zaO zaU (zaj (zqz N)) Try.func158 (zas (by kernel_rfl)) [(K.ro .u64)] [(K.ro .u64)] _ N zyZ 4 fun x => by kernel_rfl
def p160 (N : Nat) (a0 : List UInt64) (i1 : Int) : Option (UInt64 × Unit) :=
  cond (hide (ltI i1 (↑a0.length : Int))) (must (leI (0 : Int) i1 && ltI i1 (↑a0.length : Int)) (some ((List.getD a0 i1.toNat (0 : UInt64), ())))) (some (((0 : UInt64), ())))
def g160 (N : Nat) : Sg := sgK [(K.ro .u64), K.int] [K.u64] fun x => p160 N x.1 x.2.1
def zy1 : List (Nat × Head) := [
    ]
def zy2 (N : Nat) : List (Nat × Sg) := []
theorem zqB (N : Nat) : zaQ Try.prog pd.els (zy2 N) := trivial
theorem zwQ (N : Nat) : SgOK Try.prog pd.els 160 (g160 N) :=
  zaO zaU (zaj (zqB N)) Try.func160 (zas (by kernel_rfl)) [(K.ro .u64), K.int] [K.u64] _ N zy1 4 fun x => by kernel_rfl
def zjA (N : Nat) (A_1000 : (List UInt64) -> (List UInt64) -> Int -> Option (Int × Unit)) (a0 b1 : List UInt64) (i5 : Int) : Option (Int × Unit) :=
  cond (hide (ltI (hide (wr (i5 - (1 : Int)))) (0 : Int))) (some (((0 : Int), ()))) (Option.bind (p160 N a0 (hide (wr (i5 - (1 : Int))))) fun r0 => Option.bind (p160 N b1 (hide (wr (i5 - (1 : Int))))) fun r1 => cond (hide (ltN r0.1.toNat r1.1.toNat)) (some (((-1 : Int), ()))) (cond (hide (ltN r1.1.toNat r0.1.toNat)) (some (((1 : Int), ()))) (A_1000 a0 b1 (hide (wr (i5 - (1 : Int)))))))
def zjB (N n : Nat) (a0 b1 : List UInt64) (i5 : Int) : Option (Int × Unit) :=
  zar (fun A x => zjA N (fun a0 b1 i5 => A ((a0, (b1, (i5, ()))), ())) x.1.1 x.1.2.1 x.1.2.2.1) n ((a0, (b1, (i5, ()))), ())
def p61 (N : Nat) (a0 b1 : List UInt64) : Option (Int × Unit) :=
  zjB N N a0 b1 (mxI (↑a0.length : Int) (↑b1.length : Int))
def g61 (N : Nat) : Sg := sgK [(K.ro .u64), (K.ro .u64)] [K.int] fun x => p61 N x.1 x.2.1
def zBQ : List (Nat × Head) := [
    (1000, ⟨⟨31, [(0, .u (.c (.ro .u64))), (1, .u (.c (.ro .u64))), (5, .u (.c (.int)))], []⟩, .fall⟩)]
def zBR (N : Nat) : List (Nat × Sg) := [(160, g160 N)]
theorem ztY (N : Nat) : zaQ Try.prog pd.els (zBR N) := ⟨zwQ N, trivial⟩
theorem zy3 (N : Nat) : SgOK Try.prog pd.els 61 (g61 N) :=
  zaO zaU (zaj (ztY N)) Try.func61 (zas (by kernel_rfl)) [(K.ro .u64), (K.ro .u64)] [K.int] _ N zBQ 4 fun x => by kernel_rfl
def zBS (N : Nat) (A_5 : (List UInt64) -> (List UInt64) -> Int -> UInt64 -> Int -> Int -> (List UInt64) -> Option (List UInt64 × Unit)) (a0 b1 : List UInt64) (n5 : Int) (carry7 : UInt64) (t17 t18 : Int) (out6o : List UInt64) : Option (List UInt64 × Unit) :=
  cond (hide (ltI t18 t17)) (Option.bind (p160 N a0 t18) fun r1 => Option.bind (p160 N b1 t18) fun r2 => Option.bind (kAdd r1.1 r2.1 carry7) fun r3 => must (leI (0 : Int) t18 && ltI t18 (↑out6o.length : Int)) (A_5 a0 b1 n5 r3.2 t17 (hide (wr (t18 + (1 : Int)))) (setL out6o t18.toNat r3.1))) (must (leI (0 : Int) n5 && ltI n5 (↑out6o.length : Int)) (Option.bind (p158 N (setL out6o n5.toNat carry7)) fun r0 => some ((Prod.fst r0, ()))))
def zBT (N n : Nat) (a0 b1 : List UInt64) (n5 : Int) (carry7 : UInt64) (t17 t18 : Int) (out6o : List UInt64) : Option (List UInt64 × Unit) :=
  zar (fun A x => zBS N (fun a0 b1 n5 carry7 t17 t18 out6o => A ((a0, (b1, (n5, ((), (carry7, (t17, (t18, ()))))))), (out6o, ()))) x.1.1 x.1.2.1 x.1.2.2.1 x.1.2.2.2.2.1 x.1.2.2.2.2.2.1 x.1.2.2.2.2.2.2.1 x.2.1) n ((a0, (b1, (n5, ((), (carry7, (t17, (t18, ()))))))), (out6o, ()))
def p62 (N : Nat) (a0 b1 : List UInt64) : Option (List UInt64 × Unit) :=
  must (leI (0 : Int) (hide (wr (mxI (↑a0.length : Int) (↑b1.length : Int) + (1 : Int)))) && (eqI (hide (wr (mxI (↑a0.length : Int) (↑b1.length : Int) + (1 : Int)))) (hide (wr (mxI (↑a0.length : Int) (↑b1.length : Int) + (1 : Int)))) && leN (Int.toNat (hide (wr (mxI (↑a0.length : Int) (↑b1.length : Int) + (1 : Int)))) * (8 : Nat)) (140737488355328 : Nat))) (zBT N N a0 b1 (mxI (↑a0.length : Int) (↑b1.length : Int)) (0 : UInt64) (mxI (↑a0.length : Int) (↑b1.length : Int)) (0 : Int) (List.replicate (Int.toNat (hide (wr (mxI (↑a0.length : Int) (↑b1.length : Int) + (1 : Int))))) (0 : UInt64)))
def p163 (N : Nat) (x0 y1 : UInt64) : Option (UInt64 × UInt64 × Unit) :=
  some ((hide (hide (hide (hide (za6 x0 (UInt64.toNat (32 : UInt64))) * hide (za6 y1 (UInt64.toNat (32 : UInt64)))) + hide (za6 (hide (hide (hide (za6 x0 (UInt64.toNat (32 : UInt64))) * hide (y1 &&& (4294967295 : UInt64))) + hide (za6 (hide (hide (x0 &&& (4294967295 : UInt64)) * hide (y1 &&& (4294967295 : UInt64)))) (UInt64.toNat (32 : UInt64))))) (UInt64.toNat (32 : UInt64)))) + hide (za6 (hide (hide (hide (hide (hide (za6 x0 (UInt64.toNat (32 : UInt64))) * hide (y1 &&& (4294967295 : UInt64))) + hide (za6 (hide (hide (x0 &&& (4294967295 : UInt64)) * hide (y1 &&& (4294967295 : UInt64)))) (UInt64.toNat (32 : UInt64)))) &&& (4294967295 : UInt64)) + hide (hide (x0 &&& (4294967295 : UInt64)) * hide (za6 y1 (UInt64.toNat (32 : UInt64)))))) (UInt64.toNat (32 : UInt64)))), hide (x0 * y1), ()))
def g163 (N : Nat) : Sg := sgK [K.u64, K.u64] [K.u64, K.u64] fun x => p163 N x.1 x.2.1
def zy4 : List (Nat × Head) := [
    ]
def zy5 (N : Nat) : List (Nat × Sg) := []
theorem zqC (N : Nat) : zaQ Try.prog pd.els (zy5 N) := trivial
theorem zwR (N : Nat) : SgOK Try.prog pd.els 163 (g163 N) :=
  zaO zaU (zaj (zqC N)) Try.func163 (zas (by kernel_rfl)) [K.u64, K.u64] [K.u64, K.u64] _ N zy4 4 fun x => by kernel_rfl
def zBU (N : Nat) (A_3 : (List UInt64) -> (List UInt64) -> Int -> Int -> (List UInt64) -> Option (List UInt64 × Unit)) (A_7 : (List UInt64) -> Int -> UInt64 -> UInt64 -> (List UInt64) -> Int -> Int -> (List UInt64) -> Int -> Int -> (List UInt64) -> Option (List UInt64 × Unit)) (b1 : List UInt64) (i6 : Int) (x7 over8 : UInt64) (t21 : List UInt64) (t22 t23 : Int) (t28 : List UInt64) (t29 t30 : Int) (out5o : List UInt64) : Option (List UInt64 × Unit) :=
  let u1 := hide (wr (i6 + t30))
  let u2 := hide (wr (i6 + (↑b1.length : Int)))
  let u3 := leI (0 : Int) u1 && ltI u1 (↑out5o.length : Int)
  cond (hide (ltI t30 t29)) (must (leI (0 : Int) t30 && ltI t30 (↑t28.length : Int)) (Option.bind (p163 N x7 (List.getD t28 t30.toNat (0 : UInt64))) fun r0 => must u3 (Option.bind (kAdd (r0.2.1) (List.getD out5o (Int.toNat u1) (0 : UInt64)) (0 : UInt64)) fun r1 => Option.bind (kAdd r1.1 over8 (0 : UInt64)) fun r2 => must u3 (A_7 b1 i6 x7 (hide (hide (Prod.fst r0 + Prod.snd r1) + Prod.snd r2)) t21 t22 t23 t28 t29 (hide (wr (t30 + (1 : Int)))) (setL out5o (Int.toNat u1) r2.1))))) (must (leI (0 : Int) u2 && ltI u2 (↑out5o.length : Int)) (A_3 b1 t21 t22 (hide (wr (t23 + (1 : Int)))) (setL out5o (Int.toNat u2) over8)))
def zBV (N : Nat) (A_3 : (List UInt64) -> (List UInt64) -> Int -> Int -> (List UInt64) -> Option (List UInt64 × Unit)) (n : Nat) (b1 : List UInt64) (i6 : Int) (x7 over8 : UInt64) (t21 : List UInt64) (t22 t23 : Int) (t28 : List UInt64) (t29 t30 : Int) (out5o : List UInt64) : Option (List UInt64 × Unit) :=
  zar (fun A x => zBU N A_3 (fun b1 i6 x7 over8 t21 t22 t23 t28 t29 t30 out5o => A ((b1, ((), (i6, (x7, (over8, (t21, (t22, (t23, (t28, (t29, (t30, ()))))))))))), (out5o, ()))) x.1.1 x.1.2.2.1 x.1.2.2.2.1 x.1.2.2.2.2.1 x.1.2.2.2.2.2.1 x.1.2.2.2.2.2.2.1 x.1.2.2.2.2.2.2.2.1 x.1.2.2.2.2.2.2.2.2.1 x.1.2.2.2.2.2.2.2.2.2.1 x.1.2.2.2.2.2.2.2.2.2.2.1 x.2.1) n ((b1, ((), (i6, (x7, (over8, (t21, (t22, (t23, (t28, (t29, (t30, ()))))))))))), (out5o, ()))
def zBW (N : Nat) (A_3 : (List UInt64) -> (List UInt64) -> Int -> Int -> (List UInt64) -> Option (List UInt64 × Unit)) (b1 t21 : List UInt64) (t22 t23 : Int) (out5o : List UInt64) : Option (List UInt64 × Unit) :=
  cond (hide (ltI t23 t22)) (must (leI (0 : Int) t23 && ltI t23 (↑t21.length : Int)) (zBV N A_3 N b1 t23 (List.getD t21 t23.toNat (0 : UInt64)) (0 : UInt64) t21 t22 t23 b1 ((↑b1.length : Int)) (0 : Int) out5o)) (Option.bind (p158 N out5o) fun r0 => some ((Prod.fst r0, ())))
def zBX (N n : Nat) (b1 t21 : List UInt64) (t22 t23 : Int) (out5o : List UInt64) : Option (List UInt64 × Unit) :=
  zar (fun A x => zBW N (fun b1 t21 t22 t23 out5o => A ((b1, ((), (t21, (t22, (t23, ()))))), (out5o, ()))) x.1.1 x.1.2.2.1 x.1.2.2.2.1 x.1.2.2.2.2.1 x.2.1) n ((b1, ((), (t21, (t22, (t23, ()))))), (out5o, ()))
def p55 (N : Nat) (a0 b1 : List UInt64) : Option (List UInt64 × Unit) :=
  must (leI (0 : Int) (hide (wr ((↑a0.length : Int) + (↑b1.length : Int)))) && (eqI (hide (wr ((↑a0.length : Int) + (↑b1.length : Int)))) (hide (wr ((↑a0.length : Int) + (↑b1.length : Int)))) && leN (Int.toNat (hide (wr ((↑a0.length : Int) + (↑b1.length : Int)))) * (8 : Nat)) (140737488355328 : Nat))) (zBX N N b1 a0 ((↑a0.length : Int)) (0 : Int) (List.replicate (Int.toNat (hide (wr ((↑a0.length : Int) + (↑b1.length : Int))))) (0 : UInt64)))
def zy6 (N : Nat) (A_1000 : (List UInt64) -> Int -> (List UInt64) -> (List UInt64) -> Option (List UInt64 × Int × Unit)) (A_18 : (List UInt64) -> Int -> UInt64 -> Int -> Int -> (List UInt64) -> (List UInt64) -> Option (List UInt64 × Int × Unit)) (a0 : List UInt64) (i7 : Int) (borrow10 : UInt64) (t66 t67 : Int) (m1o r6o : List UInt64) : Option (List UInt64 × Int × Unit) :=
  cond (hide (ltI t67 t66)) (must (leI (0 : Int) t67 && ltI t67 (↑r6o.length : Int)) (Option.bind (p160 N m1o t67) fun r0 => Option.bind (kSub (List.getD r6o t67.toNat (0 : UInt64)) r0.1 borrow10) fun r1 => must (leI (0 : Int) t67 && ltI t67 (↑r6o.length : Int)) (A_18 a0 i7 r1.2 t66 (hide (wr (t67 + (1 : Int)))) m1o (setL r6o t67.toNat r1.1)))) (A_1000 a0 i7 m1o r6o)
def zy7 (N : Nat) (A_1000 : (List UInt64) -> Int -> (List UInt64) -> (List UInt64) -> Option (List UInt64 × Int × Unit)) (n : Nat) (a0 : List UInt64) (i7 : Int) (borrow10 : UInt64) (t66 t67 : Int) (m1o r6o : List UInt64) : Option (List UInt64 × Int × Unit) :=
  zar (fun A x => zy6 N A_1000 (fun a0 i7 borrow10 t66 t67 m1o r6o => A ((a0, ((), ((), (i7, (borrow10, (t66, (t67, ()))))))), (m1o, (r6o, ())))) x.1.1 x.1.2.2.2.1 x.1.2.2.2.2.1 x.1.2.2.2.2.2.1 x.1.2.2.2.2.2.2.1 x.2.1 x.2.2.1) n ((a0, ((), ((), (i7, (borrow10, (t66, (t67, ()))))))), (m1o, (r6o, ())))
def zy8 (N : Nat) (A_1000 : (List UInt64) -> Int -> (List UInt64) -> (List UInt64) -> Option (List UInt64 × Int × Unit)) (A_11 : (List UInt64) -> Int -> UInt64 -> Int -> Int -> (List UInt64) -> (List UInt64) -> Option (List UInt64 × Int × Unit)) (a0 : List UInt64) (i7 : Int) (carry8 : UInt64) (t41 t42 : Int) (m1o r6o : List UInt64) : Option (List UInt64 × Int × Unit) :=
  let u1 := leI (0 : Int) t42 && ltI t42 (↑r6o.length : Int)
  let u2 := List.getD r6o t42.toNat (0 : UInt64)
  cond (hide (ltI t42 t41)) (must u1 (must u1 (must u1 (A_11 a0 i7 (hide (za6 u2 (UInt64.toNat (63 : UInt64)))) t41 (hide (wr (t42 + (1 : Int)))) m1o (setL r6o t42.toNat (hide (hide (zf9 u2 (UInt64.toNat (1 : UInt64))) ||| carry8))))))) (Option.bind (p61 N r6o m1o) fun r0 => cond (hide (leI (0 : Int) r0.1)) (zy7 N A_1000 N a0 i7 (0 : UInt64) ((↑r6o.length : Int)) (0 : Int) m1o r6o) (A_1000 a0 i7 m1o r6o))
def zy9 (N : Nat) (A_1000 : (List UInt64) -> Int -> (List UInt64) -> (List UInt64) -> Option (List UInt64 × Int × Unit)) (n : Nat) (a0 : List UInt64) (i7 : Int) (carry8 : UInt64) (t41 t42 : Int) (m1o r6o : List UInt64) : Option (List UInt64 × Int × Unit) :=
  zar (fun A x => zy8 N A_1000 (fun a0 i7 carry8 t41 t42 m1o r6o => A ((a0, ((), ((), (i7, (carry8, (t41, (t42, ()))))))), (m1o, (r6o, ())))) x.1.1 x.1.2.2.2.1 x.1.2.2.2.2.1 x.1.2.2.2.2.2.1 x.1.2.2.2.2.2.2.1 x.2.1 x.2.2.1) n ((a0, ((), ((), (i7, (carry8, (t41, (t42, ()))))))), (m1o, (r6o, ())))
def ztZ (N : Nat) (A_1000 : (List UInt64) -> Int -> (List UInt64) -> (List UInt64) -> Option (List UInt64 × Int × Unit)) (a0 : List UInt64) (i7 : Int) (m1o r6o : List UInt64) : Option (List UInt64 × Int × Unit) :=
  cond (hide (ltI (hide (wr (i7 - (1 : Int)))) (0 : Int))) (Option.bind (p158 N r6o) fun r0 => some ((Prod.fst r0, (0 : Int), ()))) (must (leI (0 : Int) (hide (wr (Int.tdiv (hide (wr (i7 - (1 : Int)))) (64 : Int)))) && ltI (hide (wr (Int.tdiv (hide (wr (i7 - (1 : Int)))) (64 : Int)))) (↑a0.length : Int)) (zy9 N A_1000 N a0 (hide (wr (i7 - (1 : Int)))) (hide (hide (za6 (List.getD a0 (Int.toNat (hide (wr (Int.tdiv (hide (wr (i7 - (1 : Int)))) (64 : Int))))) (0 : UInt64)) (UInt64.toNat (hide (u64I (hide (Int.tmod (hide (wr (i7 - (1 : Int)))) (64 : Int))))))) &&& (1 : UInt64))) ((↑r6o.length : Int)) (0 : Int) m1o r6o))
def zt0 (N n : Nat) (a0 : List UInt64) (i7 : Int) (m1o r6o : List UInt64) : Option (List UInt64 × Int × Unit) :=
  zar (fun A x => ztZ N (fun a0 i7 m1o r6o => A ((a0, ((), ((), (i7, ())))), (m1o, (r6o, ())))) x.1.1 x.1.2.2.2.1 x.2.1 x.2.2.1) n ((a0, ((), ((), (i7, ())))), (m1o, (r6o, ())))
def p52 (N : Nat) (a0 m1 : List UInt64) : Option (List UInt64 × Int × Unit) :=
  Option.bind (p158 N m1) fun r0 => cond (hide (eqI (↑r0.1.length : Int) (0 : Int))) (some (([], (7 : Int), ()))) (must (leI (0 : Int) (hide (wr ((↑r0.1.length : Int) + (1 : Int)))) && (eqI (hide (wr ((↑r0.1.length : Int) + (1 : Int)))) (hide (wr ((↑r0.1.length : Int) + (1 : Int)))) && leN (Int.toNat (hide (wr ((↑r0.1.length : Int) + (1 : Int)))) * (8 : Nat)) (140737488355328 : Nat))) (zt0 N N a0 (hide (wr ((64 : Int) * (↑a0.length : Int)))) r0.1 (List.replicate (Int.toNat (hide (wr ((↑r0.1.length : Int) + (1 : Int))))) (0 : UInt64))))
def zwS (N : Nat) (A_6 : Int -> Int -> Int -> (List UInt8) -> (List UInt64) -> Option (List UInt8 × Int × Unit)) (A_9 : Int -> Int -> UInt64 -> Int -> Int -> Int -> (List UInt8) -> (List UInt64) -> Option (List UInt8 × Int × Unit)) (n1 i7 : Int) (x8 : UInt64) (t23 t24 t29 : Int) (out6o : List UInt8) (t22o : List UInt64) : Option (List UInt8 × Int × Unit) :=
  let u2 := hide (wr (hide (wr (hide (wr (n1 - (1 : Int))) - hide (wr ((8 : Int) * i7)))) - t29))
  let u4 := hide (wr (t29 + (1 : Int)))
  let u3 := UInt8.ofNat (UInt64.toNat (hide (za6 x8 (UInt64.toNat (hide (u64I (hide (wr ((8 : Int) * t29)))))))))
  let u1 := cond (hide (leI (0 : Int) u2)) (must (leI (0 : Int) u2 && ltI u2 (↑out6o.length : Int)) (A_9 n1 i7 x8 t23 t24 u4 (setL out6o (Int.toNat u2) (hide u3)) t22o)) (A_9 n1 i7 x8 t23 t24 u4 out6o t22o)
  cond (hide (ltI t29 (8 : Int))) (cond (hide (ltI u2 (0 : Int))) (cond (hide !hide u3 == (0 : UInt8)) (some (([], (8 : Int), ()))) u1) u1) (A_6 n1 t23 (hide (wr (t24 + (1 : Int)))) out6o t22o)
def zwT (N : Nat) (A_6 : Int -> Int -> Int -> (List UInt8) -> (List UInt64) -> Option (List UInt8 × Int × Unit)) (n : Nat) (n1 i7 : Int) (x8 : UInt64) (t23 t24 t29 : Int) (out6o : List UInt8) (t22o : List UInt64) : Option (List UInt8 × Int × Unit) :=
  zar (fun A x => zwS N A_6 (fun n1 i7 x8 t23 t24 t29 out6o t22o => A ((n1, ((), (i7, (x8, ((), (t23, (t24, (t29, ())))))))), (out6o, (t22o, ())))) x.1.1 x.1.2.2.1 x.1.2.2.2.1 x.1.2.2.2.2.2.1 x.1.2.2.2.2.2.2.1 x.1.2.2.2.2.2.2.2.1 x.2.1 x.2.2.1) n ((n1, ((), (i7, (x8, ((), (t23, (t24, (t29, ())))))))), (out6o, (t22o, ())))
def zwU (N : Nat) (A_6 : Int -> Int -> Int -> (List UInt8) -> (List UInt64) -> Option (List UInt8 × Int × Unit)) (n1 t23 t24 : Int) (out6o : List UInt8) (t22o : List UInt64) : Option (List UInt8 × Int × Unit) :=
  cond (hide (ltI t24 t23)) (must (leI (0 : Int) t24 && ltI t24 (↑t22o.length : Int)) (zwT N A_6 N n1 t24 (List.getD t22o t24.toNat (0 : UInt64)) t23 t24 (0 : Int) out6o t22o)) (some ((out6o, (0 : Int), ())))
def zwV (N n : Nat) (n1 t23 t24 : Int) (out6o : List UInt8) (t22o : List UInt64) : Option (List UInt8 × Int × Unit) :=
  zar (fun A x => zwU N (fun n1 t23 t24 out6o t22o => A ((n1, ((), ((), (t23, (t24, ()))))), (out6o, (t22o, ())))) x.1.1 x.1.2.2.2.1 x.1.2.2.2.2.1 x.2.1 x.2.2.1) n ((n1, ((), ((), (t23, (t24, ()))))), (out6o, (t22o, ())))
def p57 (N : Nat) (a0 : List UInt64) (n1 : Int) : Option (List UInt8 × Int × Unit) :=
  Option.bind (p158 N a0) fun r0 => cond (hide (ltI n1 (0 : Int))) (some (([], (8 : Int), ()))) (cond (hide (ltI (192 : Int) n1)) (some (([], (8 : Int), ()))) (must (leI (0 : Int) n1 && (eqI n1 n1 && leN (Int.toNat n1 * (1 : Nat)) (140737488355328 : Nat))) (zwV N N n1 ((↑r0.1.length : Int)) (0 : Int) (List.replicate n1.toNat (0 : UInt8)) r0.1)))
def g57 (N : Nat) : Sg := sgK [(K.ro .u64), K.int] [(K.ro .u8), K.int] fun x => p57 N x.1 x.2.1
def zBY : List (Nat × Head) := [
    (6, ⟨⟨60, [(1, .u (.c (.int))), (6, .u (.c (.row 7000000))), (22, .u (.c (.row 7000001))), (23, .u (.c (.int))), (24, .u (.c (.int)))], [(7000000, ⟨true, 0, 5, .vec .u8⟩), (7000001, ⟨true, 0, 42, .vec .u64⟩)]⟩, .exit 0⟩),
    (9, ⟨⟨60, [(1, .u (.c (.int))), (6, .u (.c (.row 10000000))), (7, .u (.c (.int))), (8, .u (.c (.u64))), (22, .u (.c (.row 10000001))), (23, .u (.c (.int))), (24, .u (.c (.int))), (29, .u (.c (.int)))], [(10000000, ⟨true, 0, 5, .vec .u8⟩), (10000001, ⟨true, 0, 42, .vec .u64⟩)]⟩, .exit 2⟩)]
def zBZ (N : Nat) : List (Nat × Sg) := [(158, g158 N)]
theorem zt1 (N : Nat) : zaQ Try.prog pd.els (zBZ N) := ⟨zqA N, trivial⟩
theorem zza (N : Nat) : SgOK Try.prog pd.els 57 (g57 N) :=
  zaO zaU (zaj (zt1 N)) Try.func57 (zas (by kernel_rfl)) [(K.ro .u64), K.int] [(K.ro .u8), K.int] _ N zBY 4 fun x => by kernel_rfl
def zwW (N : Nat) (A_3 : (List UInt8) -> (List UInt8) -> Int -> Int -> (List UInt64) -> Option (List UInt64 × Unit)) (b0 t12 : List UInt8) (t13 t14 : Int) (out3o : List UInt64) : Option (List UInt64 × Unit) :=
  let u2 := hide (wr (hide (wr ((↑b0.length : Int) - (1 : Int))) - t14))
  let u1 := hide (wr (Int.tdiv u2 (8 : Int)))
  let u3 := leI (0 : Int) u1 && ltI u1 (↑out3o.length : Int)
  cond (hide (ltI t14 t13)) (must (leI (0 : Int) t14 && ltI t14 (↑t12.length : Int)) (must u3 (must u3 (A_3 b0 t12 t13 (hide (wr (t14 + (1 : Int)))) (setL out3o (Int.toNat u1) (hide (List.getD out3o (Int.toNat u1) (0 : UInt64) ||| hide (zf9 (hide (UInt64.ofNat (UInt8.toNat (List.getD t12 t14.toNat (0 : UInt8))))) (UInt64.toNat (hide (u64I (hide (wr ((8 : Int) * hide (Int.tmod u2 (8 : Int)))))))))))))))) (Option.bind (p158 N out3o) fun r0 => some ((Prod.fst r0, ())))
def zwX (N n : Nat) (b0 t12 : List UInt8) (t13 t14 : Int) (out3o : List UInt64) : Option (List UInt64 × Unit) :=
  zar (fun A x => zwW N (fun b0 t12 t13 t14 out3o => A ((b0, ((), (t12, (t13, (t14, ()))))), (out3o, ()))) x.1.1 x.1.2.2.1 x.1.2.2.2.1 x.1.2.2.2.2.1 x.2.1) n ((b0, ((), (t12, (t13, (t14, ()))))), (out3o, ()))
def p59 (N : Nat) (b0 : List UInt8) : Option (List UInt64 × Unit) :=
  must (leI (0 : Int) (hide (wr (hide (wr (Int.tdiv (↑b0.length : Int) (8 : Int))) + (1 : Int)))) && (eqI (hide (wr (hide (wr (Int.tdiv (↑b0.length : Int) (8 : Int))) + (1 : Int)))) (hide (wr (hide (wr (Int.tdiv (↑b0.length : Int) (8 : Int))) + (1 : Int)))) && leN (Int.toNat (hide (wr (hide (wr (Int.tdiv (↑b0.length : Int) (8 : Int))) + (1 : Int)))) * (8 : Nat)) (140737488355328 : Nat))) (zwX N N b0 b0 ((↑b0.length : Int)) (0 : Int) (List.replicate (Int.toNat (hide (wr (hide (wr (Int.tdiv (↑b0.length : Int) (8 : Int))) + (1 : Int))))) (0 : UInt64)))
def g59 (N : Nat) : Sg := sgK [(K.ro .u8)] [(K.ro .u64)] fun x => p59 N x.1
def zB0 : List (Nat × Head) := [
    (3, ⟨⟨41, [(0, .u (.c (.ro .u8))), (3, .u (.c (.row 4000000))), (12, .u (.c (.ro .u8))), (13, .u (.c (.int))), (14, .u (.c (.int)))], [(4000000, ⟨true, 0, 42, .vec .u64⟩)]⟩, .exit 0⟩)]
def zB1 (N : Nat) : List (Nat × Sg) := [(158, g158 N)]
theorem zt2 (N : Nat) : zaQ Try.prog pd.els (zB1 N) := ⟨zqA N, trivial⟩
theorem zzb (N : Nat) : SgOK Try.prog pd.els 59 (g59 N) :=
  zaO zaU (zaj (zt2 N)) Try.func59 (zas (by kernel_rfl)) [(K.ro .u8)] [(K.ro .u64)] _ N zB0 4 fun x => by kernel_rfl
def zzc (N : Nat) (A_2 : (List UInt64) -> Int -> Option (List UInt64 × Unit)) (a0 : List UInt64) (n3 : Int) : Option (List UInt64 × Unit) :=
  cond (hide (ltI (0 : Int) n3)) (must (leI (0 : Int) (hide (wr (n3 - (1 : Int)))) && ltI (hide (wr (n3 - (1 : Int)))) (↑a0.length : Int)) (cond (hide (List.getD a0 (Int.toNat (hide (wr (n3 - (1 : Int))))) (0 : UInt64) == (0 : UInt64))) (A_2 a0 (hide (wr (n3 - (1 : Int))))) (must (leI (0 : Int) n3 && leI n3 (↑a0.length : Int)) (must (leN (((0 : Nat) + List.length (List.take (Int.toNat (n3 - (0 : Int))) a0)) * (8 : Nat)) (140737488355328 : Nat)) (some ((List.take (Int.toNat (n3 - (0 : Int))) a0, ()))))))) (must (leI (0 : Int) n3 && leI n3 (↑a0.length : Int)) (must (leN (((0 : Nat) + List.length (List.take (Int.toNat (n3 - (0 : Int))) a0)) * (8 : Nat)) (140737488355328 : Nat)) (some ((List.take (Int.toNat (n3 - (0 : Int))) a0, ())))))
def zzd (N n : Nat) (a0 : List UInt64) (n3 : Int) : Option (List UInt64 × Unit) :=
  zar (fun A x => zzc N (fun a0 n3 => A ((a0, (n3, ())), ())) x.1.1 x.1.2.1) n ((a0, (n3, ())), ())
def p161 (N : Nat) (a0 : List UInt64) : Option (List UInt64 × Unit) :=
  zzd N N a0 ((↑a0.length : Int))
def p162 (N : Nat) (a0 : List UInt64) (i1 : Int) : Option (UInt64 × Unit) :=
  cond (hide (leI (↑a0.length : Int) (hide (wr (Int.tdiv i1 (64 : Int)))))) (some (((0 : UInt64), ()))) (must (leI (0 : Int) (hide (wr (Int.tdiv i1 (64 : Int)))) && ltI (hide (wr (Int.tdiv i1 (64 : Int)))) (↑a0.length : Int)) (must (leI (0 : Int) (hide (Int.tmod i1 (64 : Int)))) (must (ltI (hide (Int.tmod i1 (64 : Int))) (18446744073709551616 : Int)) (some ((hide (hide (za6 (List.getD a0 (Int.toNat (hide (wr (Int.tdiv i1 (64 : Int))))) (0 : UInt64)) (UInt64.toNat (UInt64.ofNat (Int.toNat (hide (Int.tmod i1 (64 : Int))))))) &&& (1 : UInt64)), ()))))))
def g162 (N : Nat) : Sg := sgK [(K.ro .u64), K.int] [K.u64] fun x => p162 N x.1 x.2.1
def zze : List (Nat × Head) := [
    ]
def zzf (N : Nat) : List (Nat × Sg) := []
theorem zqD (N : Nat) : zaQ Try.prog pd.els (zzf N) := trivial
theorem zwY (N : Nat) : SgOK Try.prog pd.els 162 (g162 N) :=
  zaO zaU (zaj (zqD N)) Try.func162 (zas (by kernel_rfl)) [(K.ro .u64), K.int] [K.u64] _ N zze 4 fun x => by kernel_rfl
def p165 (N : Nat) (a0 : List UInt64) (i1 : Int) : Option (UInt64 × Unit) :=
  cond (hide (ltI i1 (↑a0.length : Int))) (must (leI (0 : Int) i1 && ltI i1 (↑a0.length : Int)) (some ((List.getD a0 i1.toNat (0 : UInt64), ())))) (some (((0 : UInt64), ())))
def zB2 (N : Nat) (A_7 : Int -> (List UInt64) -> (List UInt64) -> Option (Int × Unit)) (i5 : Int) (a0o b1o : List UInt64) : Option (Int × Unit) :=
  cond (hide (leI (0 : Int) i5)) (must (leI (0 : Int) i5 && ltI i5 (↑a0o.length : Int)) (must (leI (0 : Int) i5 && ltI i5 (↑b1o.length : Int)) (cond (hide (ltN (UInt64.toNat (List.getD a0o i5.toNat (0 : UInt64))) (UInt64.toNat (List.getD b1o i5.toNat (0 : UInt64))))) (some (((-1 : Int), ()))) (must (leI (0 : Int) i5 && ltI i5 (↑a0o.length : Int)) (must (leI (0 : Int) i5 && ltI i5 (↑b1o.length : Int)) (cond (hide (ltN (UInt64.toNat (List.getD b1o i5.toNat (0 : UInt64))) (UInt64.toNat (List.getD a0o i5.toNat (0 : UInt64))))) (some (((1 : Int), ()))) (A_7 (hide (wr (i5 - (1 : Int)))) a0o b1o))))))) (some (((0 : Int), ())))
def zB3 (N n : Nat) (i5 : Int) (a0o b1o : List UInt64) : Option (Int × Unit) :=
  zar (fun A x => zB2 N (fun i5 a0o b1o => A (((), ((), (i5, ()))), (a0o, (b1o, ())))) x.1.2.2.1 x.2.1 x.2.2.1) n (((), ((), (i5, ()))), (a0o, (b1o, ())))
def p65 (N : Nat) (a0 b1 : List UInt64) : Option (Int × Unit) :=
  Option.bind (p161 N a0) fun r0 => Option.bind (p161 N b1) fun r1 => cond (hide !eqI (↑r0.1.length : Int) (↑r1.1.length : Int)) (cond (hide (ltI (↑r0.1.length : Int) (↑r1.1.length : Int))) (some (((-1 : Int), ()))) (some (((1 : Int), ())))) (zB3 N N (hide (wr ((↑r0.1.length : Int) - (1 : Int)))) r0.1 r1.1)
def zB4 (N : Nat) (A_4 : (List UInt64) -> (List UInt64) -> UInt64 -> Int -> (List UInt64) -> Option (List UInt64 × Unit)) (a0 b1 : List UInt64) (c6 : UInt64) (i7 : Int) (out5o : List UInt64) : Option (List UInt64 × Unit) :=
  cond (hide (ltI i7 (mxI (↑a0.length : Int) (↑b1.length : Int)))) (Option.bind (p165 N a0 i7) fun r1 => Option.bind (p165 N b1 i7) fun r2 => Option.bind (kAdd r1.1 r2.1 c6) fun r3 => must (leN ((List.length out5o + List.length [Prod.fst r3]) * (8 : Nat)) (140737488355328 : Nat)) (A_4 a0 b1 r3.2 (hide (wr (i7 + (1 : Int)))) (out5o ++ [Prod.fst r3]))) (must (leN ((List.length out5o + List.length [c6]) * (8 : Nat)) (140737488355328 : Nat)) (Option.bind (p161 N (out5o ++ [c6])) fun r0 => some ((Prod.fst r0, ()))))
def zB5 (N n : Nat) (a0 b1 : List UInt64) (c6 : UInt64) (i7 : Int) (out5o : List UInt64) : Option (List UInt64 × Unit) :=
  zar (fun A x => zB4 N (fun a0 b1 c6 i7 out5o => A ((a0, (b1, ((), (c6, (i7, ()))))), (out5o, ()))) x.1.1 x.1.2.1 x.1.2.2.2.1 x.1.2.2.2.2.1 x.2.1) n ((a0, (b1, ((), (c6, (i7, ()))))), (out5o, ()))
def p66 (N : Nat) (a0 b1 : List UInt64) : Option (List UInt64 × Unit) :=
  zB5 N N a0 b1 (0 : UInt64) (0 : Int) []
def zB6 (N : Nat) (A_6 : (List UInt64) -> (List UInt64) -> UInt64 -> Int -> (List UInt64) -> Option (List UInt64 × Int × Unit)) (a0 b1 : List UInt64) (c7 : UInt64) (i8 : Int) (out6o : List UInt64) : Option (List UInt64 × Int × Unit) :=
  cond (hide (ltI i8 (mxI (↑a0.length : Int) (↑b1.length : Int)))) (Option.bind (p165 N a0 i8) fun r1 => Option.bind (p165 N b1 i8) fun r2 => Option.bind (kSub r1.1 r2.1 c7) fun r3 => must (leN ((List.length out6o + List.length [Prod.fst r3]) * (8 : Nat)) (140737488355328 : Nat)) (A_6 a0 b1 r3.2 (hide (wr (i8 + (1 : Int)))) (out6o ++ [Prod.fst r3]))) (Option.bind (p161 N out6o) fun r0 => some ((Prod.fst r0, (0 : Int), ())))
def zB7 (N n : Nat) (a0 b1 : List UInt64) (c7 : UInt64) (i8 : Int) (out6o : List UInt64) : Option (List UInt64 × Int × Unit) :=
  zar (fun A x => zB6 N (fun a0 b1 c7 i8 out6o => A ((a0, (b1, ((), (c7, (i8, ()))))), (out6o, ()))) x.1.1 x.1.2.1 x.1.2.2.2.1 x.1.2.2.2.2.1 x.2.1) n ((a0, (b1, ((), (c7, (i8, ()))))), (out6o, ()))
def p64 (N : Nat) (a0 b1 : List UInt64) : Option (List UInt64 × Int × Unit) :=
  Option.bind (p65 N a0 b1) fun r0 => cond (hide (ltI r0.1 (0 : Int))) (some (([], (1 : Int), ()))) (zB7 N N a0 b1 (0 : UInt64) (0 : Int) [])
def zB8 (N : Nat) (A_6 : (List UInt64) -> Int -> (List UInt64) -> (List UInt64) -> Option (List UInt64 × Int × Unit)) (a0 : List UInt64) (i7 : Int) (m1o r6o : List UInt64) : Option (List UInt64 × Int × Unit) :=
  let u1 := hide (wr (i7 - (1 : Int)))
  cond (hide (leI (0 : Int) i7)) (Option.bind (p66 N r6o r6o) fun r1 => Option.bind (p162 N a0 i7) fun r2 => cond (hide (Prod.fst r2 == (1 : UInt64))) (Option.bind (p66 N r1.1 ([(1 : UInt64)])) fun r5 => Option.bind (p65 N r5.1 m1o) fun r6 => cond (hide (leI (0 : Int) r6.1)) (Option.bind (p64 N r5.1 m1o) fun r7 => A_6 a0 u1 m1o r7.1) (A_6 a0 u1 m1o r5.1)) (Option.bind (p65 N r1.1 m1o) fun r3 => cond (hide (leI (0 : Int) r3.1)) (Option.bind (p64 N r1.1 m1o) fun r4 => A_6 a0 u1 m1o r4.1) (A_6 a0 u1 m1o r1.1))) (Option.bind (p161 N r6o) fun r0 => some ((Prod.fst r0, (0 : Int), ())))
def zB9 (N n : Nat) (a0 : List UInt64) (i7 : Int) (m1o r6o : List UInt64) : Option (List UInt64 × Int × Unit) :=
  zar (fun A x => zB8 N (fun a0 i7 m1o r6o => A ((a0, ((), ((), (i7, ())))), (m1o, (r6o, ())))) x.1.1 x.1.2.2.2.1 x.2.1 x.2.2.1) n ((a0, ((), ((), (i7, ())))), (m1o, (r6o, ())))
def p53 (N : Nat) (a0 m1 : List UInt64) : Option (List UInt64 × Int × Unit) :=
  Option.bind (p161 N m1) fun r0 => cond (hide (eqI (↑r0.1.length : Int) (0 : Int))) (some (([], (7 : Int), ()))) (zB9 N N a0 (hide (wr (hide (wr ((64 : Int) * (↑a0.length : Int))) - (1 : Int)))) r0.1 [])
def zzg (N : Nat) (A_11 : Int -> Int -> (List UInt64) -> (List UInt8) -> Option (List UInt8 × Int × Unit)) (n1 i8 : Int) (a0o : List UInt64) (out7o : List UInt8) : Option (List UInt8 × Int × Unit) :=
  let u1 := hide (wr ((8 : Int) * hide (Int.tmod i8 (8 : Int))))
  let u2 := hide (wr (hide (wr (n1 - (1 : Int))) - i8))
  cond (hide (ltI i8 n1)) (Option.bind (p165 N a0o (hide (wr (Int.tdiv i8 (8 : Int))))) fun r0 => must (leI (0 : Int) u1) (must (ltI u1 (18446744073709551616 : Int)) (must (leI (0 : Int) u2 && ltI u2 (↑out7o.length : Int)) (A_11 n1 (hide (wr (i8 + (1 : Int)))) a0o (setL out7o (Int.toNat u2) (hide (UInt8.ofNat (UInt64.toNat (hide (za6 r0.1 (UInt64.toNat (UInt64.ofNat (Int.toNat u1))))))))))))) (some ((out7o, (0 : Int), ())))
def zzh (N n : Nat) (n1 i8 : Int) (a0o : List UInt64) (out7o : List UInt8) : Option (List UInt8 × Int × Unit) :=
  zar (fun A x => zzg N (fun n1 i8 a0o out7o => A (((), (n1, ((), (i8, ())))), (a0o, (out7o, ())))) x.1.2.1 x.1.2.2.2.1 x.2.1 x.2.2.1) n (((), (n1, ((), (i8, ())))), (a0o, (out7o, ())))
def zCa (N : Nat) (A_5 : Int -> Int -> (List UInt64) -> Option (List UInt8 × Int × Unit)) (n1 i6 : Int) (a0o : List UInt64) : Option (List UInt8 × Int × Unit) :=
  let u1 := hide (wr ((8 : Int) * hide (Int.tmod i6 (8 : Int))))
  let u2 := hide (wr (Int.tdiv i6 (8 : Int)))
  cond (hide (ltI i6 (hide (wr ((8 : Int) * (↑a0o.length : Int)))))) (must (leI (0 : Int) u2 && ltI u2 (↑a0o.length : Int)) (must (leI (0 : Int) u1) (must (ltI u1 (18446744073709551616 : Int)) (cond (hide !hide (UInt8.ofNat (UInt64.toNat (hide (za6 (List.getD a0o (Int.toNat u2) (0 : UInt64)) (UInt64.toNat (UInt64.ofNat (Int.toNat u1))))))) == (0 : UInt8)) (some (([], (8 : Int), ()))) (A_5 n1 (hide (wr (i6 + (1 : Int)))) a0o))))) (must (leI (0 : Int) n1 && (eqI n1 n1 && leN (Int.toNat n1 * (1 : Nat)) (140737488355328 : Nat))) (zzh N N n1 (0 : Int) a0o (List.replicate n1.toNat (0 : UInt8))))
def zCb (N n : Nat) (n1 i6 : Int) (a0o : List UInt64) : Option (List UInt8 × Int × Unit) :=
  zar (fun A x => zCa N (fun n1 i6 a0o => A (((), (n1, (i6, ()))), (a0o, ()))) x.1.2.1 x.1.2.2.1 x.2.1) n (((), (n1, (i6, ()))), (a0o, ()))
def p58 (N : Nat) (a0 : List UInt64) (n1 : Int) : Option (List UInt8 × Int × Unit) :=
  Option.bind (p161 N a0) fun r0 => cond (hide (ltI n1 (0 : Int))) (some (([], (8 : Int), ()))) (cond (hide (ltI (192 : Int) n1)) (some (([], (8 : Int), ()))) (zCb N N n1 n1 r0.1))
def zCc (N : Nat) (A_3 : (List UInt8) -> Int -> (List UInt64) -> Option (List UInt64 × Unit)) (b0 : List UInt8) (i4 : Int) (out3o : List UInt64) : Option (List UInt64 × Unit) :=
  let u1 := hide (wr (Int.tdiv i4 (8 : Int)))
  let u5 := (↑b0.length : Int)
  let u2 := hide (wr (hide (wr (u5 - (1 : Int))) - i4))
  let u3 := hide (wr ((8 : Int) * hide (Int.tmod i4 (8 : Int))))
  let u4 := leI (0 : Int) u1 && ltI u1 (↑out3o.length : Int)
  cond (hide (ltI i4 u5)) (must u4 (must (leI (0 : Int) u2 && ltI u2 u5) (must (leI (0 : Int) u3) (must (ltI u3 (18446744073709551616 : Int)) (must u4 (A_3 b0 (hide (wr (i4 + (1 : Int)))) (setL out3o (Int.toNat u1) (hide (List.getD out3o (Int.toNat u1) (0 : UInt64) + hide (zf9 (hide (UInt64.ofNat (UInt8.toNat (List.getD b0 (Int.toNat u2) (0 : UInt8))))) (UInt64.toNat (UInt64.ofNat (Int.toNat u3))))))))))))) (Option.bind (p161 N out3o) fun r0 => some ((Prod.fst r0, ())))
def zCd (N n : Nat) (b0 : List UInt8) (i4 : Int) (out3o : List UInt64) : Option (List UInt64 × Unit) :=
  zar (fun A x => zCc N (fun b0 i4 out3o => A ((b0, ((), (i4, ()))), (out3o, ()))) x.1.1 x.1.2.2.1 x.2.1) n ((b0, ((), (i4, ()))), (out3o, ()))
def p60 (N : Nat) (b0 : List UInt8) : Option (List UInt64 × Unit) :=
  must (leI (0 : Int) (hide (wr (Int.tdiv (hide (wr ((↑b0.length : Int) + (7 : Int)))) (8 : Int)))) && (eqI (hide (wr (Int.tdiv (hide (wr ((↑b0.length : Int) + (7 : Int)))) (8 : Int)))) (hide (wr (Int.tdiv (hide (wr ((↑b0.length : Int) + (7 : Int)))) (8 : Int)))) && leN (Int.toNat (hide (wr (Int.tdiv (hide (wr ((↑b0.length : Int) + (7 : Int)))) (8 : Int)))) * (8 : Nat)) (140737488355328 : Nat))) (zCd N N b0 (0 : Int) (List.replicate (Int.toNat (hide (wr (Int.tdiv (hide (wr ((↑b0.length : Int) + (7 : Int)))) (8 : Int))))) (0 : UInt64)))
def zCe (N : Nat) (A_4 : (List UInt64) -> (List UInt64) -> Int -> Option (Bool × Unit)) (a0 b1 : List UInt64) (i5 : Int) : Option (Bool × Unit) :=
  cond (hide (ltI i5 (↑a0.length : Int))) (must (leI (0 : Int) i5 && ltI i5 (↑a0.length : Int)) (must (leI (0 : Int) i5 && ltI i5 (↑b1.length : Int)) (cond (hide !List.getD a0 i5.toNat (0 : UInt64) == List.getD b1 i5.toNat (0 : UInt64)) (some ((false, ()))) (A_4 a0 b1 (hide (wr (i5 + (1 : Int)))))))) (some ((true, ())))
def zCf (N n : Nat) (a0 b1 : List UInt64) (i5 : Int) : Option (Bool × Unit) :=
  zar (fun A x => zCe N (fun a0 b1 i5 => A ((a0, (b1, (i5, ()))), ())) x.1.1 x.1.2.1 x.1.2.2.1) n ((a0, (b1, (i5, ()))), ())
def p54 (N : Nat) (a0 b1 : List UInt64) : Option (Bool × Unit) :=
  cond (hide !eqI (↑a0.length : Int) (↑b1.length : Int)) (some ((false, ()))) (zCf N N a0 b1 (0 : Int))
def p51 (N : Nat) : Option (Bool × Unit) :=
  let u1 := some ((false, ()))
  Option.bind (p52 N ([(7 : UInt64)]) ([(4 : UInt64)])) fun r0 => Option.bind (p57 N ([(258 : UInt64)]) (2 : Int)) fun r1 => cond (hide (eqI (r0.2.1) (0 : Int))) (cond (hide (eqI (↑r0.1.length : Int) (1 : Int))) (must (ltI (0 : Int) (↑r0.1.length : Int)) (cond (hide (List.getD r0.1 (0 : Nat) (0 : UInt64) == (3 : UInt64))) (cond (hide (eqI (r1.2.1) (0 : Int))) (cond (hide (eqB r1.1 [(1 : UInt8), (2 : UInt8)])) (Option.bind (p62 N ([(1 : UInt64)]) []) fun r2 => cond (hide (eqI (↑r2.1.length : Int) (1 : Int))) (Option.bind (p55 N ([(9223372036854775808 : UInt64)]) ([(2 : UInt64)])) fun r3 => cond (hide (eqI (↑r3.1.length : Int) (2 : Int))) (Option.bind (p61 N ([(1 : UInt64)]) []) fun r4 => some ((hide (eqI r4.1 (1 : Int)), ()))) u1) u1) u1) u1) u1)) u1) u1
end
section
def p6 (N : Nat) (a0 m1 : List UInt64) : Option (Bool × Unit) :=
  Option.bind (p51 N) fun r0 => cond (hide !r0.1) (some ((false, ()))) (cond (hide (ltI (24 : Int) (↑a0.length : Int))) (some ((true, ()))) (cond (hide (ltI (12 : Int) (↑m1.length : Int))) (some ((true, ()))) (Option.bind (p52 N a0 m1) fun r1 => Option.bind (p53 N a0 m1) fun r2 => cond (hide (eqI (r1.2.1) (r2.2.1))) (Option.bind (p54 N r1.1 r2.1) fun r3 => some ((Prod.fst r3, ()))) (some ((false, ()))))))
def g6 (N : Nat) : Sg := sgK [(K.ro .u64), (K.ro .u64)] [K.bool] fun x => p6 N x.1 x.2.1
def p8 (N : Nat) (a0 : List UInt64) (n1 : Int) (b2 : List UInt8) : Option (Bool × Unit) :=
  Option.bind (p51 N) fun r0 => cond (hide !r0.1) (some ((false, ()))) (cond (hide (ltI (24 : Int) (↑a0.length : Int))) (some ((true, ()))) (cond (hide (ltI (192 : Int) (↑b2.length : Int))) (some ((true, ()))) (Option.bind (p57 N a0 n1) fun r1 => Option.bind (p58 N a0 n1) fun r2 => cond (hide (eqI (r1.2.1) (r2.2.1))) (cond (hide (eqB r1.1 r2.1)) (Option.bind (p59 N b2) fun r3 => Option.bind (p60 N b2) fun r4 => Option.bind (p54 N r3.1 r4.1) fun r5 => some ((Prod.fst r5, ()))) (some ((false, ())))) (some ((false, ()))))))
end
end Go.Proofs.Ytgimohchocjgcaa.V
