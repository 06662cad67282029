import Derived.Test.YtgimohchocjgcaaVTM
import Derived.Test.YtgimohchocjgcaaVUL
import Derived.KernelRfl
set_option linter.unusedVariables false
set_option linter.unusedSimpArgs false
namespace Go.Proofs.Ytgimohchocjgcaa.V
def q211 (N : Nat) (x0 : UInt32) (k1 : Int) : Option (UInt32 × Unit) :=
  some ((((zcv x0 (UInt64.toNat (((u64I k1) &&& (31 : UInt64))))) ||| (zbz x0 (UInt64.toNat (((32 : UInt64) - ((u64I k1) &&& (31 : UInt64))))))), ()))
theorem zpf : p211 = q211 := by
  (repeat (apply funext; intro _))
  simp only [p211, q211, hide_eq]
def q155 (N : Nat) (x0 : UInt32) (a1 b2 c3 : Int) : Option (UInt32 × Unit) :=
  Option.bind (q211 N x0 ((wr ((0 : Int) - a1)))) fun r0 => Option.bind (q211 N x0 ((wr ((0 : Int) - b2)))) fun r1 => Option.bind (q211 N x0 ((wr ((0 : Int) - c3)))) fun r2 => some ((((Prod.fst r0 ^^^ Prod.fst r1) ^^^ Prod.fst r2), ()))
theorem zr9 : p155 = q155 := by
  (repeat (apply funext; intro _))
  simp only [p155, q155, hide_eq, zpf]
def q210 (N : Nat) (x0 : UInt32) (a1 b2 c3 : Int) : Option (UInt32 × Unit) :=
  Option.bind (q211 N x0 ((wr ((0 : Int) - a1)))) fun r0 => Option.bind (q211 N x0 ((wr ((0 : Int) - b2)))) fun r1 => some ((((Prod.fst r0 ^^^ Prod.fst r1) ^^^ (zbz x0 (UInt64.toNat ((u64I c3))))), ()))
theorem zsa : p210 = q210 := by
  (repeat (apply funext; intro _))
  simp only [p210, q210, hide_eq, zpf]
def q149 (N : Nat) : Option (List UInt32 × Unit) :=
  some (([(1779033703 : UInt32), (3144134277 : UInt32), (1013904242 : UInt32), (2773480762 : UInt32), (1359893119 : UInt32), (2600822924 : UInt32), (528734635 : UInt32), (1541459225 : UInt32)], ()))
theorem zsb : p149 = q149 := by
  (repeat (apply funext; intro _))
  simp only [p149, q149, ]
def zfS (N : Nat) (A_6 : UInt64 -> Int -> (List UInt8) -> Option (List UInt8 × Unit)) (n4 : UInt64) (shift5 : Int) (out3o : List UInt8) : Option (List UInt8 × Unit) :=
  cond ((leI (0 : Int) shift5)) (must (leN ((List.length out3o + List.length [(UInt8.ofNat (UInt64.toNat ((zas n4 (UInt64.toNat ((u64I shift5)))))))]) * (1 : Nat)) (140737488355328 : Nat)) (A_6 n4 ((wr (shift5 - (8 : Int)))) (out3o ++ [(UInt8.ofNat (UInt64.toNat ((zas n4 (UInt64.toNat ((u64I shift5)))))))]))) (some ((out3o, ())))
theorem zoj : zlW = zfS := by
  (repeat (apply funext; intro _))
  simp only [zlW, zfS, hide_eq]
def zdu (N n : Nat) (n4 : UInt64) (shift5 : Int) (out3o : List UInt8) : Option (List UInt8 × Unit) :=
  zaj (fun A x => zfS N (fun n4 shift5 out3o => A (((), (n4, (shift5, ()))), (out3o, ()))) x.1.2.1 x.1.2.2.1 x.2.1) n (((), (n4, (shift5, ()))), (out3o, ()))
theorem zok : zlX = zdu := by
  (repeat (apply funext; intro _))
  simp only [zlX, zdu, zoj]
theorem ze3 (N n : Nat) (n4 : UInt64) (shift5 : Int) (out3o : List UInt8) : zdu N (n + 1) n4 shift5 out3o = zfS N (zdu N n) n4 shift5 out3o := rfl
def zfT (N : Nat) (A_2 : (List UInt8) -> (List UInt8) -> Option (List UInt8 × Unit)) (b0 out3o : List UInt8) : Option (List UInt8 × Unit) :=
  cond (!eqI ((Int.tmod (↑out3o.length : Int) (64 : Int))) (56 : Int)) (must (leN ((List.length out3o + List.length [(0 : UInt8)]) * (1 : Nat)) (140737488355328 : Nat)) (A_2 b0 (out3o ++ [(0 : UInt8)]))) (zdu N N (((u64I (↑b0.length : Int)) * (8 : UInt64))) (56 : Int) out3o)
theorem zol : zlY = zfT := by
  (repeat (apply funext; intro _))
  simp only [zlY, zfT, hide_eq, zok]
def zfU (N n : Nat) (b0 out3o : List UInt8) : Option (List UInt8 × Unit) :=
  zaj (fun A x => zfT N (fun b0 out3o => A ((b0, ((), ())), (out3o, ()))) x.1.1 x.2.1) n ((b0, ((), ())), (out3o, ()))
theorem zom : zlZ = zfU := by
  (repeat (apply funext; intro _))
  simp only [zlZ, zfU, zol]
theorem ze4 (N n : Nat) (b0 out3o : List UInt8) : zfU N (n + 1) b0 out3o = zfT N (zfU N n) b0 out3o := rfl
def q150 (N : Nat) (b0 : List UInt8) : Option (List UInt8 × Unit) :=
  must (leN (((0 : Nat) + List.length b0) * (1 : Nat)) (140737488355328 : Nat)) (must (leN ((List.length b0 + List.length [(128 : UInt8)]) * (1 : Nat)) (140737488355328 : Nat)) (zfU N N b0 (b0 ++ [(128 : UInt8)])))
theorem zsc : p150 = q150 := by
  (repeat (apply funext; intro _))
  simp only [p150, q150, zom]
def q154 (N : Nat) : Option (List UInt32 × Unit) :=
  some (([(1116352408 : UInt32), (1899447441 : UInt32), (3049323471 : UInt32), (3921009573 : UInt32), (961987163 : UInt32), (1508970993 : UInt32), (2453635748 : UInt32), (2870763221 : UInt32), (3624381080 : UInt32), (310598401 : UInt32), (607225278 : UInt32), (1426881987 : UInt32), (1925078388 : UInt32), (2162078206 : UInt32), (2614888103 : UInt32), (3248222580 : UInt32), (3835390401 : UInt32), (4022224774 : UInt32), (264347078 : UInt32), (604807628 : UInt32), (770255983 : UInt32), (1249150122 : UInt32), (1555081692 : UInt32), (1996064986 : UInt32), (2554220882 : UInt32), (2821834349 : UInt32), (2952996808 : UInt32), (3210313671 : UInt32), (3336571891 : UInt32), (3584528711 : UInt32), (113926993 : UInt32), (338241895 : UInt32), (666307205 : UInt32), (773529912 : UInt32), (1294757372 : UInt32), (1396182291 : UInt32), (1695183700 : UInt32), (1986661051 : UInt32), (2177026350 : UInt32), (2456956037 : UInt32), (2730485921 : UInt32), (2820302411 : UInt32), (3259730800 : UInt32), (3345764771 : UInt32), (3516065817 : UInt32), (3600352804 : UInt32), (4094571909 : UInt32), (275423344 : UInt32), (430227734 : UInt32), (506948616 : UInt32), (659060556 : UInt32), (883997877 : UInt32), (958139571 : UInt32), (1322822218 : UInt32), (1537002063 : UInt32), (1747873779 : UInt32), (1955562222 : UInt32), (2024104815 : UInt32), (2227730452 : UInt32), (2361852424 : UInt32), (2428436474 : UInt32), (2756734187 : UInt32), (3204031479 : UInt32), (3329325298 : UInt32)], ()))
theorem zsd : p154 = q154 := by
  (repeat (apply funext; intro _))
  simp only [p154, q154, ]
def zdT (N : Nat) (A_12 : Int -> (List UInt32) -> (List UInt32) -> Option (List UInt32 × Unit)) (i7 : Int) (ob0 ob1 : List UInt32) : Option (List UInt32 × Unit) :=
  cond ((ltI i7 (64 : Int))) (must (leI (0 : Int) ((wr (i7 - (16 : Int)))) && ltI ((wr (i7 - (16 : Int)))) (↑(64 : Nat) : Int)) (must (leI (0 : Int) ((wr (i7 - (15 : Int)))) && ltI ((wr (i7 - (15 : Int)))) (↑(64 : Nat) : Int)) (Option.bind (q210 N (List.getD ob1 (Int.toNat ((wr (i7 - (15 : Int))))) (0 : UInt32)) (7 : Int) (18 : Int) (3 : Int)) fun r0 => must (leI (0 : Int) ((wr (i7 - (7 : Int)))) && ltI ((wr (i7 - (7 : Int)))) (↑(64 : Nat) : Int)) (must (leI (0 : Int) ((wr (i7 - (2 : Int)))) && ltI ((wr (i7 - (2 : Int)))) (↑(64 : Nat) : Int)) (Option.bind (q210 N (List.getD ob1 (Int.toNat ((wr (i7 - (2 : Int))))) (0 : UInt32)) (17 : Int) (19 : Int) (10 : Int)) fun r1 => must (leI (0 : Int) i7 && ltI i7 (↑(64 : Nat) : Int)) (A_12 ((wr (i7 + (1 : Int)))) ob0 (setL ob1 i7.toNat ((((List.getD ob1 (Int.toNat ((wr (i7 - (16 : Int))))) (0 : UInt32) + Prod.fst r0) + List.getD ob1 (Int.toNat ((wr (i7 - (7 : Int))))) (0 : UInt32)) + Prod.fst r1))))))))) (must (Nat.beq ob1.length (64 : Nat)) (some ((ob1, ()))))
theorem zmz : ziw = zdT := by
  (repeat (apply funext; intro _))
  simp only [ziw, zdT, hide_eq, zsa]
def zdU (N n : Nat) (i7 : Int) (ob0 ob1 : List UInt32) : Option (List UInt32 × Unit) :=
  zaj (fun A x => zdT N (fun i7 ob0 ob1 => A (((), ((), (i7, ()))), (ob0, (ob1, ())))) x.1.2.2.1 x.2.1 x.2.2.1) n (((), ((), (i7, ()))), (ob0, (ob1, ())))
theorem zmA : zix = zdU := by
  (repeat (apply funext; intro _))
  simp only [zix, zdU, zmz]
theorem zd8 (N n : Nat) (i7 : Int) (ob0 ob1 : List UInt32) : zdU N (n + 1) i7 ob0 ob1 = zdT N (zdU N n) i7 ob0 ob1 := rfl
def zfV (N : Nat) (A_3 : Int -> (List UInt8) -> (List UInt32) -> (List UInt32) -> Option (List UInt32 × Unit)) (A_6 : Int -> Int -> Nat -> Nat -> Int -> Int -> (List UInt8) -> (List UInt32) -> (List UInt32) -> Option (List UInt32 × Unit)) (i4 t8 : Int) (t16f t16n : Nat) (t17 t18 : Int) (t16o : List UInt8) (ob1 ob2 : List UInt32) : Option (List UInt32 × Unit) :=
  cond ((ltI t18 t17)) (must (leI (0 : Int) t18 && ltI t18 (↑t16n : Int)) (must (leI (0 : Int) i4 && ltI i4 (↑(64 : Nat) : Int)) (must (leI (0 : Int) i4 && ltI i4 (↑(64 : Nat) : Int)) (A_6 i4 t8 t16f t16n t17 ((wr (t18 + (1 : Int)))) t16o ob1 (setL ob2 i4.toNat (((zcv (List.getD ob2 i4.toNat (0 : UInt32)) (UInt64.toNat (8 : UInt64))) ||| (UInt32.ofNat (UInt8.toNat (List.getD t16o (t16f + Int.toNat t18) (0 : UInt8))))))))))) (A_3 ((wr (t8 + (1 : Int)))) t16o ob1 ob2)
theorem zon : zl2 = zfV := by
  (repeat (apply funext; intro _))
  simp only [zl2, zfV, hide_eq]
def zfW (N : Nat) (A_3 : Int -> (List UInt8) -> (List UInt32) -> (List UInt32) -> Option (List UInt32 × Unit)) (n : Nat) (i4 t8 : Int) (t16f t16n : Nat) (t17 t18 : Int) (t16o : List UInt8) (ob1 ob2 : List UInt32) : Option (List UInt32 × Unit) :=
  zaj (fun A x => zfV N A_3 (fun i4 t8 t16f t16n t17 t18 t16o ob1 ob2 => A (((), ((), ((), (i4, (t8, ((t16f, t16n), (t17, (t18, ())))))))), (t16o, (ob1, (ob2, ()))))) x.1.2.2.2.1 x.1.2.2.2.2.1 x.1.2.2.2.2.2.1.1 x.1.2.2.2.2.2.1.2 x.1.2.2.2.2.2.2.1 x.1.2.2.2.2.2.2.2.1 x.2.1 x.2.2.1 x.2.2.2.1) n (((), ((), ((), (i4, (t8, ((t16f, t16n), (t17, (t18, ())))))))), (t16o, (ob1, (ob2, ()))))
theorem zoo : zl3 = zfW := by
  (repeat (apply funext; intro _))
  simp only [zl3, zfW, zon]
theorem ze5 (N : Nat) (A_3 : Int -> (List UInt8) -> (List UInt32) -> (List UInt32) -> Option (List UInt32 × Unit)) (n : Nat) (i4 t8 : Int) (t16f t16n : Nat) (t17 t18 : Int) (t16o : List UInt8) (ob1 ob2 : List UInt32) : zfW N A_3 (n + 1) i4 t8 t16f t16n t17 t18 t16o ob1 ob2 = zfV N A_3 (zfW N A_3 n) i4 t8 t16f t16n t17 t18 t16o ob1 ob2 := rfl
def zfX (N : Nat) (A_3 : Int -> (List UInt8) -> (List UInt32) -> (List UInt32) -> Option (List UInt32 × Unit)) (t8 : Int) (ob0 : List UInt8) (ob1 ob2 : List UInt32) : Option (List UInt32 × Unit) :=
  cond ((ltI t8 (16 : Int))) (must (leI (0 : Int) ((wr ((4 : Int) * t8))) && (leI ((wr ((4 : Int) * t8))) ((wr ((wr ((4 : Int) * t8)) + (4 : Int)))) && leI ((wr ((wr ((4 : Int) * t8)) + (4 : Int)))) (↑(64 : Nat) : Int))) (zfW N A_3 N t8 t8 (Int.toNat ((wr ((4 : Int) * t8)))) (Int.toNat ((wr ((wr ((4 : Int) * t8)) + (4 : Int))) - (wr ((4 : Int) * t8)))) ((↑(Int.toNat ((wr ((wr ((4 : Int) * t8)) + (4 : Int))) - (wr ((4 : Int) * t8)))) : Int)) (0 : Int) ob0 ob1 ob2)) (zdU N N (16 : Int) ob1 ob2)
theorem zop : zl4 = zfX := by
  (repeat (apply funext; intro _))
  simp only [zl4, zfX, hide_eq, zmA, zoo]
def ze6 (N n : Nat) (t8 : Int) (ob0 : List UInt8) (ob1 ob2 : List UInt32) : Option (List UInt32 × Unit) :=
  zaj (fun A x => zfX N (fun t8 ob0 ob1 ob2 => A (((), ((), ((), (t8, ())))), (ob0, (ob1, (ob2, ()))))) x.1.2.2.2.1 x.2.1 x.2.2.1 x.2.2.2.1) n (((), ((), ((), (t8, ())))), (ob0, (ob1, (ob2, ()))))
theorem zoq : zl5 = ze6 := by
  (repeat (apply funext; intro _))
  simp only [zl5, ze6, zop]
theorem ze7 (N n : Nat) (t8 : Int) (ob0 : List UInt8) (ob1 ob2 : List UInt32) : ze6 N (n + 1) t8 ob0 ob1 ob2 = zfX N (ze6 N n) t8 ob0 ob1 ob2 := rfl
def q153 (N : Nat) (b0 : List UInt8) : Option (List UInt32 × Unit) :=
  must (Nat.beq b0.length (64 : Nat)) (ze6 N N (0 : Int) b0 ([(0 : UInt32), (0 : UInt32), (0 : UInt32), (0 : UInt32), (0 : UInt32), (0 : UInt32), (0 : UInt32), (0 : UInt32), (0 : UInt32), (0 : UInt32), (0 : UInt32), (0 : UInt32), (0 : UInt32), (0 : UInt32), (0 : UInt32), (0 : UInt32), (0 : UInt32), (0 : UInt32), (0 : UInt32), (0 : UInt32), (0 : UInt32), (0 : UInt32), (0 : UInt32), (0 : UInt32), (0 : UInt32), (0 : UInt32), (0 : UInt32), (0 : UInt32), (0 : UInt32), (0 : UInt32), (0 : UInt32), (0 : UInt32), (0 : UInt32), (0 : UInt32), (0 : UInt32), (0 : UInt32), (0 : UInt32), (0 : UInt32), (0 : UInt32), (0 : UInt32), (0 : UInt32), (0 : UInt32), (0 : UInt32), (0 : UInt32), (0 : UInt32), (0 : UInt32), (0 : UInt32), (0 : UInt32), (0 : UInt32), (0 : UInt32), (0 : UInt32), (0 : UInt32), (0 : UInt32), (0 : UInt32), (0 : UInt32), (0 : UInt32), (0 : UInt32), (0 : UInt32), (0 : UInt32), (0 : UInt32), (0 : UInt32), (0 : UInt32), (0 : UInt32), (0 : UInt32)]) ([(0 : UInt32), (0 : UInt32), (0 : UInt32), (0 : UInt32), (0 : UInt32), (0 : UInt32), (0 : UInt32), (0 : UInt32), (0 : UInt32), (0 : UInt32), (0 : UInt32), (0 : UInt32), (0 : UInt32), (0 : UInt32), (0 : UInt32), (0 : UInt32), (0 : UInt32), (0 : UInt32), (0 : UInt32), (0 : UInt32), (0 : UInt32), (0 : UInt32), (0 : UInt32), (0 : UInt32), (0 : UInt32), (0 : UInt32), (0 : UInt32), (0 : UInt32), (0 : UInt32), (0 : UInt32), (0 : UInt32), (0 : UInt32), (0 : UInt32), (0 : UInt32), (0 : UInt32), (0 : UInt32), (0 : UInt32), (0 : UInt32), (0 : UInt32), (0 : UInt32), (0 : UInt32), (0 : UInt32), (0 : UInt32), (0 : UInt32), (0 : UInt32), (0 : UInt32), (0 : UInt32), (0 : UInt32), (0 : UInt32), (0 : UInt32), (0 : UInt32), (0 : UInt32), (0 : UInt32), (0 : UInt32), (0 : UInt32), (0 : UInt32), (0 : UInt32), (0 : UInt32), (0 : UInt32), (0 : UInt32), (0 : UInt32), (0 : UInt32), (0 : UInt32), (0 : UInt32)]))
theorem zse : p153 = q153 := by
  (repeat (apply funext; intro _))
  simp only [p153, q153, zoq]
def zqw (N : Nat) (A_9 : (List UInt32) -> Int -> (List UInt32) -> (List UInt32) -> Option (List UInt32 × Unit)) (t89 : List UInt32) (t90 : Int) (ob0 ob1 : List UInt32) : Option (List UInt32 × Unit) :=
  cond ((ltI t90 (8 : Int))) (must (leI (0 : Int) t90 && (ltI t90 (↑(8 : Nat) : Int) && ltI t90 (↑t89.length : Int))) (must (leI (0 : Int) t90 && ltI t90 (↑(8 : Nat) : Int)) (must (leI (0 : Int) t90 && ltI t90 (↑(8 : Nat) : Int)) (A_9 t89 ((wr (t90 + (1 : Int)))) (setL ob0 t90.toNat ((List.getD ob0 t90.toNat (0 : UInt32) + List.getD t89 t90.toNat (0 : UInt32)))) ob1)))) (must (Nat.beq ob0.length (8 : Nat)) (some ((ob0, ()))))
theorem zqx : zqf = zqw := by
  (repeat (apply funext; intro _))
  simp only [zqf, zqw, hide_eq]
def zmB (N n : Nat) (t89 : List UInt32) (t90 : Int) (ob0 ob1 : List UInt32) : Option (List UInt32 × Unit) :=
  zaj (fun A x => zqw N (fun t89 t90 ob0 ob1 => A (((), ((), (t89, (t90, ())))), (ob0, (ob1, ())))) x.1.2.2.1 x.1.2.2.2.1 x.2.1 x.2.2.1) n (((), ((), (t89, (t90, ())))), (ob0, (ob1, ())))
theorem zqy : zqg = zmB := by
  (repeat (apply funext; intro _))
  simp only [zqg, zmB, zqx]
def zcM (N : Nat) (A_1000 : Int -> (List UInt32) -> (List UInt32) -> (List UInt32) -> (List UInt32) -> (List UInt32) -> Option (List UInt32 × Unit)) (i8 : Int) (ob0 ob1 ob2 ob3 ob4 : List UInt32) : Option (List UInt32 × Unit) :=
  Option.bind (q155 N (List.getD ob4 (4 : Nat) (0 : UInt32)) (6 : Int) (11 : Int) (25 : Int)) fun r0 => must (leI (0 : Int) i8 && ltI i8 (↑(64 : Nat) : Int)) (must (leI (0 : Int) i8 && ltI i8 (↑(64 : Nat) : Int)) (Option.bind (q155 N (List.getD ob4 (0 : Nat) (0 : UInt32)) (2 : Int) (13 : Int) (22 : Int)) fun r1 => cond ((ltI ((wr (i8 + (1 : Int)))) (64 : Int))) (A_1000 ((wr (i8 + (1 : Int)))) ob0 ob1 ob2 ob3 ([(((((List.getD ob4 (7 : Nat) (0 : UInt32) + Prod.fst r0) + ((List.getD ob4 (4 : Nat) (0 : UInt32) &&& List.getD ob4 (5 : Nat) (0 : UInt32)) ^^^ ((~~~List.getD ob4 (4 : Nat) (0 : UInt32)) &&& List.getD ob4 (6 : Nat) (0 : UInt32)))) + List.getD ob3 i8.toNat (0 : UInt32)) + List.getD ob2 i8.toNat (0 : UInt32)) + (Prod.fst r1 + (((List.getD ob4 (0 : Nat) (0 : UInt32) &&& List.getD ob4 (1 : Nat) (0 : UInt32)) ^^^ (List.getD ob4 (0 : Nat) (0 : UInt32) &&& List.getD ob4 (2 : Nat) (0 : UInt32))) ^^^ (List.getD ob4 (1 : Nat) (0 : UInt32) &&& List.getD ob4 (2 : Nat) (0 : UInt32))))), List.getD ob4 (0 : Nat) (0 : UInt32), List.getD ob4 (1 : Nat) (0 : UInt32), List.getD ob4 (2 : Nat) (0 : UInt32), (List.getD ob4 (3 : Nat) (0 : UInt32) + ((((List.getD ob4 (7 : Nat) (0 : UInt32) + Prod.fst r0) + ((List.getD ob4 (4 : Nat) (0 : UInt32) &&& List.getD ob4 (5 : Nat) (0 : UInt32)) ^^^ ((~~~List.getD ob4 (4 : Nat) (0 : UInt32)) &&& List.getD ob4 (6 : Nat) (0 : UInt32)))) + List.getD ob3 i8.toNat (0 : UInt32)) + List.getD ob2 i8.toNat (0 : UInt32))), List.getD ob4 (4 : Nat) (0 : UInt32), List.getD ob4 (5 : Nat) (0 : UInt32), List.getD ob4 (6 : Nat) (0 : UInt32)])) (zmB N N ([(((((List.getD ob4 (7 : Nat) (0 : UInt32) + Prod.fst r0) + ((List.getD ob4 (4 : Nat) (0 : UInt32) &&& List.getD ob4 (5 : Nat) (0 : UInt32)) ^^^ ((~~~List.getD ob4 (4 : Nat) (0 : UInt32)) &&& List.getD ob4 (6 : Nat) (0 : UInt32)))) + List.getD ob3 i8.toNat (0 : UInt32)) + List.getD ob2 i8.toNat (0 : UInt32)) + (Prod.fst r1 + (((List.getD ob4 (0 : Nat) (0 : UInt32) &&& List.getD ob4 (1 : Nat) (0 : UInt32)) ^^^ (List.getD ob4 (0 : Nat) (0 : UInt32) &&& List.getD ob4 (2 : Nat) (0 : UInt32))) ^^^ (List.getD ob4 (1 : Nat) (0 : UInt32) &&& List.getD ob4 (2 : Nat) (0 : UInt32))))), List.getD ob4 (0 : Nat) (0 : UInt32), List.getD ob4 (1 : Nat) (0 : UInt32), List.getD ob4 (2 : Nat) (0 : UInt32), (List.getD ob4 (3 : Nat) (0 : UInt32) + ((((List.getD ob4 (7 : Nat) (0 : UInt32) + Prod.fst r0) + ((List.getD ob4 (4 : Nat) (0 : UInt32) &&& List.getD ob4 (5 : Nat) (0 : UInt32)) ^^^ ((~~~List.getD ob4 (4 : Nat) (0 : UInt32)) &&& List.getD ob4 (6 : Nat) (0 : UInt32)))) + List.getD ob3 i8.toNat (0 : UInt32)) + List.getD ob2 i8.toNat (0 : UInt32))), List.getD ob4 (4 : Nat) (0 : UInt32), List.getD ob4 (5 : Nat) (0 : UInt32), List.getD ob4 (6 : Nat) (0 : UInt32)]) (0 : Int) ob0 ob1)))
theorem zke : zgG = zcM := by
  (repeat (apply funext; intro _))
  simp only [zgG, zcM, hide_eq, zqy, zr9]
def zcN (N n : Nat) (i8 : Int) (ob0 ob1 ob2 ob3 ob4 : List UInt32) : Option (List UInt32 × Unit) :=
  zaj (fun A x => zcM N (fun i8 ob0 ob1 ob2 ob3 ob4 => A (((), ((), ((), ((), ((), (i8, ())))))), (ob0, (ob1, (ob2, (ob3, (ob4, ()))))))) x.1.2.2.2.2.2.1 x.2.1 x.2.2.1 x.2.2.2.1 x.2.2.2.2.1 x.2.2.2.2.2.1) n (((), ((), ((), ((), ((), (i8, ())))))), (ob0, (ob1, (ob2, (ob3, (ob4, ()))))))
theorem zkf : zgH = zcN := by
  (repeat (apply funext; intro _))
  simp only [zgH, zcN, zke]
theorem zdv (N n : Nat) (i8 : Int) (ob0 ob1 ob2 ob3 ob4 : List UInt32) : zcN N (n + 1) i8 ob0 ob1 ob2 ob3 ob4 = zcM N (zcN N n) i8 ob0 ob1 ob2 ob3 ob4 := rfl
def q48 (N : Nat) (h0 : List UInt32) (b1 : List UInt8) : Option (List UInt32 × Unit) :=
  must (Nat.beq h0.length (8 : Nat)) (must (Nat.beq b1.length (64 : Nat)) (Option.bind (q153 N b1) fun r0 => Option.bind (q154 N) fun r1 => must (Nat.beq r0.1.length (64 : Nat)) (must (Nat.beq r1.1.length (64 : Nat)) (must (Nat.beq h0.length (8 : Nat)) (zcN N N (0 : Int) h0 ([(0 : UInt32), (0 : UInt32), (0 : UInt32), (0 : UInt32), (0 : UInt32), (0 : UInt32), (0 : UInt32), (0 : UInt32)]) r0.1 r1.1 h0)))))
theorem zsf : p48 = q48 := by
  (repeat (apply funext; intro _))
  simp only [p48, q48, zkf, zse, zsd]
def zmC (N : Nat) (A_8 : (List UInt32) -> Int -> (List UInt8) -> (List UInt8) -> Option (List UInt8 × Unit)) (A_11 : Int -> UInt32 -> (List UInt32) -> Int -> Int -> (List UInt8) -> (List UInt8) -> Option (List UInt8 × Unit)) (i6 : Int) (v7 : UInt32) (t23 : List UInt32) (t24 t28 : Int) (ob0 ob1 : List UInt8) : Option (List UInt8 × Unit) :=
  cond ((ltI t28 (4 : Int))) (must (leI (0 : Int) ((wr ((wr ((4 : Int) * i6)) + t28))) && ltI ((wr ((wr ((4 : Int) * i6)) + t28))) (↑(32 : Nat) : Int)) (A_11 i6 v7 t23 t24 ((wr (t28 + (1 : Int)))) ob0 (setL ob1 (Int.toNat ((wr ((wr ((4 : Int) * i6)) + t28)))) ((UInt8.ofNat (UInt32.toNat ((zbz v7 (UInt64.toNat ((u64I ((wr ((24 : Int) - (wr ((8 : Int) * t28)))))))))))))))) (A_8 t23 ((wr (t24 + (1 : Int)))) ob0 ob1)
theorem zor : zl7 = zmC := by
  (repeat (apply funext; intro _))
  simp only [zl7, zmC, hide_eq]
def zmD (N : Nat) (A_8 : (List UInt32) -> Int -> (List UInt8) -> (List UInt8) -> Option (List UInt8 × Unit)) (n : Nat) (i6 : Int) (v7 : UInt32) (t23 : List UInt32) (t24 t28 : Int) (ob0 ob1 : List UInt8) : Option (List UInt8 × Unit) :=
  zaj (fun A x => zmC N A_8 (fun i6 v7 t23 t24 t28 ob0 ob1 => A (((), ((), (i6, (v7, (t23, (t24, (t28, ()))))))), (ob0, (ob1, ())))) x.1.2.2.1 x.1.2.2.2.1 x.1.2.2.2.2.1 x.1.2.2.2.2.2.1 x.1.2.2.2.2.2.2.1 x.2.1 x.2.2.1) n (((), ((), (i6, (v7, (t23, (t24, (t28, ()))))))), (ob0, (ob1, ())))
theorem zos : zl8 = zmD := by
  (repeat (apply funext; intro _))
  simp only [zl8, zmD, zor]
def zqz (N : Nat) (A_8 : (List UInt32) -> Int -> (List UInt8) -> (List UInt8) -> Option (List UInt8 × Unit)) (t23 : List UInt32) (t24 : Int) (ob0 ob1 : List UInt8) : Option (List UInt8 × Unit) :=
  cond ((ltI t24 (8 : Int))) (must (leI (0 : Int) t24 && (ltI t24 (↑(8 : Nat) : Int) && ltI t24 (↑t23.length : Int))) (zmD N A_8 N t24 (List.getD t23 t24.toNat (0 : UInt32)) t23 t24 (0 : Int) ob0 ob1)) (must (Nat.beq ob1.length (32 : Nat)) (some ((ob1, ()))))
theorem zqA : zqh = zqz := by
  (repeat (apply funext; intro _))
  simp only [zqh, zqz, hide_eq, zos]
def zot (N n : Nat) (t23 : List UInt32) (t24 : Int) (ob0 ob1 : List UInt8) : Option (List UInt8 × Unit) :=
  zaj (fun A x => zqz N (fun t23 t24 ob0 ob1 => A (((), ((), (t23, (t24, ())))), (ob0, (ob1, ())))) x.1.2.2.1 x.1.2.2.2.1 x.2.1 x.2.2.1) n (((), ((), (t23, (t24, ())))), (ob0, (ob1, ())))
theorem zqB : zqi = zot := by
  (repeat (apply funext; intro _))
  simp only [zqi, zot, zqA]
def zkg (N : Nat) (A_3 : Nat -> Nat -> (List UInt8) -> (List UInt32) -> (List UInt8) -> Option (List UInt8 × Unit)) (l4f l4n : Nat) (ob0 : List UInt8) (ob1 : List UInt32) (l4o : List UInt8) : Option (List UInt8 × Unit) :=
  cond ((ltI (0 : Int) (↑l4n : Int))) (must (leI (64 : Int) (↑l4n : Int)) (must (leN (l4f + Int.toNat (0 : Int) + (64 : Nat)) l4o.length) (Option.bind (q48 N ob1 (List.take (64 : Nat) (List.drop (l4f + Int.toNat (0 : Int)) l4o))) fun r0 => must (Nat.beq r0.1.length (8 : Nat)) (must (leI (64 : Int) (↑l4n : Int) && leI (↑l4n : Int) (↑l4n : Int)) (A_3 (l4f + Int.toNat (64 : Int)) (Int.toNat ((↑l4n : Int) - (64 : Int))) ob0 r0.1 l4o))))) (zot N N ob1 (0 : Int) ob0 ([(0 : UInt8), (0 : UInt8), (0 : UInt8), (0 : UInt8), (0 : UInt8), (0 : UInt8), (0 : UInt8), (0 : UInt8), (0 : UInt8), (0 : UInt8), (0 : UInt8), (0 : UInt8), (0 : UInt8), (0 : UInt8), (0 : UInt8), (0 : UInt8), (0 : UInt8), (0 : UInt8), (0 : UInt8), (0 : UInt8), (0 : UInt8), (0 : UInt8), (0 : UInt8), (0 : UInt8), (0 : UInt8), (0 : UInt8), (0 : UInt8), (0 : UInt8), (0 : UInt8), (0 : UInt8), (0 : UInt8), (0 : UInt8)]))
theorem zqC : zqj = zkg := by
  (repeat (apply funext; intro _))
  simp only [zqj, zkg, hide_eq, zqB, zsf]
def zkh (N n l4f l4n : Nat) (ob0 : List UInt8) (ob1 : List UInt32) (l4o : List UInt8) : Option (List UInt8 × Unit) :=
  zaj (fun A x => zkg N (fun l4f l4n ob0 ob1 l4o => A (((), ((), ((l4f, l4n), ()))), (ob0, (ob1, (l4o, ()))))) x.1.2.2.1.1 x.1.2.2.1.2 x.2.1 x.2.2.1 x.2.2.2.1) n (((), ((), ((l4f, l4n), ()))), (ob0, (ob1, (l4o, ()))))
theorem zqD : zqk = zkh := by
  (repeat (apply funext; intro _))
  simp only [zqk, zkh, zqC]
theorem zfY (N n l4f l4n : Nat) (ob0 : List UInt8) (ob1 : List UInt32) (l4o : List UInt8) : zkh N (n + 1) l4f l4n ob0 ob1 l4o = zkg N (zkh N n) l4f l4n ob0 ob1 l4o := rfl
def q42 (N : Nat) (b0 : List UInt8) : Option (List UInt8 × Unit) :=
  Option.bind (q149 N) fun r0 => must (Nat.beq r0.1.length (8 : Nat)) (Option.bind (q150 N b0) fun r1 => zkh N N (0 : Nat) r1.1.length ([(0 : UInt8), (0 : UInt8), (0 : UInt8), (0 : UInt8), (0 : UInt8), (0 : UInt8), (0 : UInt8), (0 : UInt8), (0 : UInt8), (0 : UInt8), (0 : UInt8), (0 : UInt8), (0 : UInt8), (0 : UInt8), (0 : UInt8), (0 : UInt8), (0 : UInt8), (0 : UInt8), (0 : UInt8), (0 : UInt8), (0 : UInt8), (0 : UInt8), (0 : UInt8), (0 : UInt8), (0 : UInt8), (0 : UInt8), (0 : UInt8), (0 : UInt8), (0 : UInt8), (0 : UInt8), (0 : UInt8), (0 : UInt8)]) r0.1 r1.1)
theorem zsg : p42 = q42 := by
  (repeat (apply funext; intro _))
  simp only [p42, q42, zqD, zsb, zsc]
def q209 (N : Nat) (x0 : UInt32) (n1 : Int) : Option (UInt32 × Unit) :=
  must (leI (0 : Int) n1) (must (ltI n1 (18446744073709551616 : Int)) (must (leI (0 : Int) ((wr ((32 : Int) - n1)))) (must (ltI ((wr ((32 : Int) - n1))) (18446744073709551616 : Int)) (some ((((zbz x0 (UInt64.toNat (UInt64.ofNat n1.toNat))) ||| (zcv x0 (UInt64.toNat (UInt64.ofNat (Int.toNat ((wr ((32 : Int) - n1)))))))), ()))))))
theorem zpg : p209 = q209 := by
  (repeat (apply funext; intro _))
  simp only [p209, q209, hide_eq]
def q212 (N : Nat) (v0 n1 : UInt64) (cube2 : Bool) : Option (Bool × Unit) :=
  Option.bind (q163 N v0 v0) fun r0 => cond (!cube2) (cond ((ltN r0.1.toNat n1.toNat)) (some ((true, ()))) (cond ((Prod.fst r0 == n1)) (some (((Prod.fst r0.2 == (0 : UInt64)), ()))) (some ((false, ()))))) (Option.bind (q163 N (r0.2.1) v0) fun r1 => Option.bind (q163 N r0.1 v0) fun r2 => Option.bind (kAdd r1.1 (r2.2.1) (0 : UInt64)) fun r3 => Option.bind (q163 N r0.1 v0) fun r4 => cond (!(Prod.fst r4 + Prod.snd r3) == (0 : UInt64)) (some ((false, ()))) (cond ((ltN r3.1.toNat (UInt64.toNat ((zdz n1 (UInt64.toNat (32 : UInt64))))))) (some ((true, ()))) (cond ((Prod.fst r3 == (zdz n1 (UInt64.toNat (32 : UInt64))))) (some (((Prod.fst r1.2 == (0 : UInt64)), ()))) (some ((false, ()))))))
theorem zsh : p212 = q212 := by
  (repeat (apply funext; intro _))
  simp only [p212, q212, hide_eq, zr2]
def zmE (N : Nat) (A_3 : UInt64 -> (List UInt64) -> Option (List UInt64 × Unit)) (A_7 : UInt64 -> Bool -> Int -> (List UInt64) -> Option (List UInt64 × Unit)) (n2 : UInt64) (is3 : Bool) (i4 : Int) (l1o : List UInt64) : Option (List UInt64 × Unit) :=
  cond ((ltI i4 (↑l1o.length : Int))) (cond is3 (must (leI (0 : Int) i4 && ltI i4 (↑l1o.length : Int)) (must (!List.getD l1o i4.toNat (0 : UInt64) == (0 : UInt64)) (A_7 n2 (!(n2 % List.getD l1o i4.toNat (0 : UInt64)) == (0 : UInt64)) ((wr (i4 + (1 : Int)))) l1o))) (A_7 n2 false ((wr (i4 + (1 : Int)))) l1o)) (cond is3 (must (leN ((List.length l1o + List.length [n2]) * (8 : Nat)) (140737488355328 : Nat)) (A_3 ((n2 + (1 : UInt64))) (l1o ++ [n2]))) (A_3 ((n2 + (1 : UInt64))) l1o))
theorem zou : zmb = zmE := by
  (repeat (apply funext; intro _))
  simp only [zmb, zmE, hide_eq]
def zmF (N : Nat) (A_3 : UInt64 -> (List UInt64) -> Option (List UInt64 × Unit)) (n : Nat) (n2 : UInt64) (is3 : Bool) (i4 : Int) (l1o : List UInt64) : Option (List UInt64 × Unit) :=
  zaj (fun A x => zmE N A_3 (fun n2 is3 i4 l1o => A (((), (n2, (is3, (i4, ())))), (l1o, ()))) x.1.2.1 x.1.2.2.1 x.1.2.2.2.1 x.2.1) n (((), (n2, (is3, (i4, ())))), (l1o, ()))
theorem zov : zmc = zmF := by
  (repeat (apply funext; intro _))
  simp only [zmc, zmF, zou]
def zmG (N : Nat) (A_3 : UInt64 -> (List UInt64) -> Option (List UInt64 × Unit)) (n2 : UInt64) (l1o : List UInt64) : Option (List UInt64 × Unit) :=
  cond ((ltI (↑l1o.length : Int) (64 : Int))) (zmF N A_3 N n2 true (0 : Int) l1o) (some ((l1o, ())))
theorem zow : zmd = zmG := by
  (repeat (apply funext; intro _))
  simp only [zmd, zmG, hide_eq, zov]
def zmH (N n : Nat) (n2 : UInt64) (l1o : List UInt64) : Option (List UInt64 × Unit) :=
  zaj (fun A x => zmG N (fun n2 l1o => A (((), (n2, ())), (l1o, ()))) x.1.2.1 x.2.1) n (((), (n2, ())), (l1o, ()))
theorem zox : zme = zmH := by
  (repeat (apply funext; intro _))
  simp only [zme, zmH, zow]
def q156 (N : Nat) : Option (List UInt64 × Unit) :=
  zmH N N (2 : UInt64) []
theorem zph : p156 = q156 := by
  (repeat (apply funext; intro _))
  simp only [p156, q156, zox]
def zmI (N : Nat) (A_3 : UInt64 -> Bool -> UInt64 -> Int -> Option (UInt32 × Unit)) (n0 : UInt64) (cube1 : Bool) (v5 : UInt64) (i6 : Int) : Option (UInt32 × Unit) :=
  cond ((leI (0 : Int) i6)) (must (leI (0 : Int) i6) (must (ltI i6 (18446744073709551616 : Int)) (Option.bind (q212 N ((v5 + (zdz (1 : UInt64) (UInt64.toNat (UInt64.ofNat i6.toNat))))) n0 cube1) fun r0 => cond r0.1 (A_3 n0 cube1 ((v5 + (zdz (1 : UInt64) (UInt64.toNat (UInt64.ofNat i6.toNat))))) ((wr (i6 - (1 : Int))))) (A_3 n0 cube1 v5 ((wr (i6 - (1 : Int)))))))) (some (((UInt32.ofNat v5.toNat), ())))
theorem zoy : zmh = zmI := by
  (repeat (apply funext; intro _))
  simp only [zmh, zmI, hide_eq, zsh]
def zmJ (N n : Nat) (n0 : UInt64) (cube1 : Bool) (v5 : UInt64) (i6 : Int) : Option (UInt32 × Unit) :=
  zaj (fun A x => zmI N (fun n0 cube1 v5 i6 => A ((n0, (cube1, (v5, (i6, ())))), ())) x.1.1 x.1.2.1 x.1.2.2.1 x.1.2.2.2.1) n ((n0, (cube1, (v5, (i6, ())))), ())
theorem zoz : zmi = zmJ := by
  (repeat (apply funext; intro _))
  simp only [zmi, zmJ, zoy]
def q157 (N : Nat) (n0 : UInt64) (cube1 : Bool) : Option (UInt32 × Unit) :=
  zmJ N N n0 cube1 (0 : UInt64) (36 : Int)
theorem zpi : p157 = q157 := by
  (repeat (apply funext; intro _))
  simp only [p157, q157, zoz]
def zqE (N : Nat) (A_4 : Int -> (List UInt32) -> (List UInt32) -> (List UInt64) -> Option (List UInt32 × Unit)) (i3 : Int) (ob0 ob1 : List UInt32) (p2o : List UInt64) : Option (List UInt32 × Unit) :=
  cond ((ltI i3 (8 : Int))) (must (leI (0 : Int) i3 && ltI i3 (↑p2o.length : Int)) (Option.bind (q157 N (List.getD p2o i3.toNat (0 : UInt64)) false) fun r0 => must (leI (0 : Int) i3 && ltI i3 (↑(8 : Nat) : Int)) (A_4 ((wr (i3 + (1 : Int)))) ob0 (setL ob1 i3.toNat r0.1) p2o))) (must (Nat.beq ob1.length (8 : Nat)) (some ((ob1, ()))))
theorem zqF : zqn = zqE := by
  (repeat (apply funext; intro _))
  simp only [zqn, zqE, hide_eq, zpi]
def zqG (N n : Nat) (i3 : Int) (ob0 ob1 : List UInt32) (p2o : List UInt64) : Option (List UInt32 × Unit) :=
  zaj (fun A x => zqE N (fun i3 ob0 ob1 p2o => A (((), ((), ((), (i3, ())))), (ob0, (ob1, (p2o, ()))))) x.1.2.2.2.1 x.2.1 x.2.2.1 x.2.2.2.1) n (((), ((), ((), (i3, ())))), (ob0, (ob1, (p2o, ()))))
theorem zqH : zqo = zqG := by
  (repeat (apply funext; intro _))
  simp only [zqo, zqG, zqF]
def q50 (N : Nat) : Option (List UInt32 × Unit) :=
  Option.bind (q156 N) fun r0 => zqG N N (0 : Int) ([(0 : UInt32), (0 : UInt32), (0 : UInt32), (0 : UInt32), (0 : UInt32), (0 : UInt32), (0 : UInt32), (0 : UInt32)]) ([(0 : UInt32), (0 : UInt32), (0 : UInt32), (0 : UInt32), (0 : UInt32), (0 : UInt32), (0 : UInt32), (0 : UInt32)]) r0.1
theorem ztA : p50 = q50 := by
  (repeat (apply funext; intro _))
  simp only [p50, q50, zqH, zph]
def zmK (N : Nat) (A_4 : Int -> (List UInt32) -> (List UInt32) -> (List UInt64) -> Option (List UInt32 × Unit)) (i3 : Int) (ob0 ob1 : List UInt32) (p2o : List UInt64) : Option (List UInt32 × Unit) :=
  cond ((ltI i3 (64 : Int))) (must (leI (0 : Int) i3 && ltI i3 (↑p2o.length : Int)) (Option.bind (q157 N (List.getD p2o i3.toNat (0 : UInt64)) true) fun r0 => must (leI (0 : Int) i3 && ltI i3 (↑(64 : Nat) : Int)) (A_4 ((wr (i3 + (1 : Int)))) ob0 (setL ob1 i3.toNat r0.1) p2o))) (must (Nat.beq ob1.length (64 : Nat)) (some ((ob1, ()))))
theorem zoA : zml = zmK := by
  (repeat (apply funext; intro _))
  simp only [zml, zmK, hide_eq, zpi]
def zmL (N n : Nat) (i3 : Int) (ob0 ob1 : List UInt32) (p2o : List UInt64) : Option (List UInt32 × Unit) :=
  zaj (fun A x => zmK N (fun i3 ob0 ob1 p2o => A (((), ((), ((), (i3, ())))), (ob0, (ob1, (p2o, ()))))) x.1.2.2.2.1 x.2.1 x.2.2.1 x.2.2.2.1) n (((), ((), ((), (i3, ())))), (ob0, (ob1, (p2o, ()))))
theorem zoB : zmm = zmL := by
  (repeat (apply funext; intro _))
  simp only [zmm, zmL, zoA]
def q151 (N : Nat) : Option (List UInt32 × Unit) :=
  Option.bind (q156 N) fun r0 => zmL N N (0 : Int) ([(0 : UInt32), (0 : UInt32), (0 : UInt32), (0 : UInt32), (0 : UInt32), (0 : UInt32), (0 : UInt32), (0 : UInt32), (0 : UInt32), (0 : UInt32), (0 : UInt32), (0 : UInt32), (0 : UInt32), (0 : UInt32), (0 : UInt32), (0 : UInt32), (0 : UInt32), (0 : UInt32), (0 : UInt32), (0 : UInt32), (0 : UInt32), (0 : UInt32), (0 : UInt32), (0 : UInt32), (0 : UInt32), (0 : UInt32), (0 : UInt32), (0 : UInt32), (0 : UInt32), (0 : UInt32), (0 : UInt32), (0 : UInt32), (0 : UInt32), (0 : UInt32), (0 : UInt32), (0 : UInt32), (0 : UInt32), (0 : UInt32), (0 : UInt32), (0 : UInt32), (0 : UInt32), (0 : UInt32), (0 : UInt32), (0 : UInt32), (0 : UInt32), (0 : UInt32), (0 : UInt32), (0 : UInt32), (0 : UInt32), (0 : UInt32), (0 : UInt32), (0 : UInt32), (0 : UInt32), (0 : UInt32), (0 : UInt32), (0 : UInt32), (0 : UInt32), (0 : UInt32), (0 : UInt32), (0 : UInt32), (0 : UInt32), (0 : UInt32), (0 : UInt32), (0 : UInt32)]) ([(0 : UInt32), (0 : UInt32), (0 : UInt32), (0 : UInt32), (0 : UInt32), (0 : UInt32), (0 : UInt32), (0 : UInt32), (0 : UInt32), (0 : UInt32), (0 : UInt32), (0 : UInt32), (0 : UInt32), (0 : UInt32), (0 : UInt32), (0 : UInt32), (0 : UInt32), (0 : UInt32), (0 : UInt32), (0 : UInt32), (0 : UInt32), (0 : UInt32), (0 : UInt32), (0 : UInt32), (0 : UInt32), (0 : UInt32), (0 : UInt32), (0 : UInt32), (0 : UInt32), (0 : UInt32), (0 : UInt32), (0 : UInt32), (0 : UInt32), (0 : UInt32), (0 : UInt32), (0 : UInt32), (0 : UInt32), (0 : UInt32), (0 : UInt32), (0 : UInt32), (0 : UInt32), (0 : UInt32), (0 : UInt32), (0 : UInt32), (0 : UInt32), (0 : UInt32), (0 : UInt32), (0 : UInt32), (0 : UInt32), (0 : UInt32), (0 : UInt32), (0 : UInt32), (0 : UInt32), (0 : UInt32), (0 : UInt32), (0 : UInt32), (0 : UInt32), (0 : UInt32), (0 : UInt32), (0 : UInt32), (0 : UInt32), (0 : UInt32), (0 : UInt32), (0 : UInt32)]) r0.1
theorem zpj : p151 = q151 := by
  (repeat (apply funext; intro _))
  simp only [p151, q151, zoB, zph]
def ziD (N : Nat) (A_20 : Int -> (List UInt32) -> (List UInt32) -> (List UInt32) -> Option (List UInt32 × Unit)) (i18 : Int) (ob0 ob1 ob2 : List UInt32) : Option (List UInt32 × Unit) :=
  cond ((ltI i18 (8 : Int))) (must (leI (0 : Int) i18 && ltI i18 (↑(8 : Nat) : Int)) (must (leI (0 : Int) i18 && ltI i18 (↑(8 : Nat) : Int)) (must (leI (0 : Int) i18 && ltI i18 (↑(8 : Nat) : Int)) (A_20 ((wr (i18 + (1 : Int)))) ob0 ob1 (setL ob2 i18.toNat ((List.getD ob2 i18.toNat (0 : UInt32) + List.getD ob0 i18.toNat (0 : UInt32)))))))) (must (Nat.beq ob2.length (8 : Nat)) (some ((ob2, ()))))
theorem zmM : ziy = ziD := by
  (repeat (apply funext; intro _))
  simp only [ziy, ziD, hide_eq]
def ze8 (N n : Nat) (i18 : Int) (ob0 ob1 ob2 : List UInt32) : Option (List UInt32 × Unit) :=
  zaj (fun A x => ziD N (fun i18 ob0 ob1 ob2 => A (((), ((), ((), (i18, ())))), (ob0, (ob1, (ob2, ()))))) x.1.2.2.2.1 x.2.1 x.2.2.1 x.2.2.2.1) n (((), ((), ((), (i18, ())))), (ob0, (ob1, (ob2, ()))))
theorem zmN : ziz = ze8 := by
  (repeat (apply funext; intro _))
  simp only [ziz, ze8, zmM]
def zdV (N : Nat) (A_13 : Int -> (List UInt32) -> (List UInt32) -> (List UInt32) -> (List UInt32) -> (List UInt32) -> Option (List UInt32 × Unit)) (i13 : Int) (ob0 ob1 ob2 ob3 ob4 : List UInt32) : Option (List UInt32 × Unit) :=
  cond ((ltI i13 (64 : Int))) (Option.bind (q209 N (List.getD ob4 (4 : Nat) (0 : UInt32)) (6 : Int)) fun r0 => Option.bind (q209 N (List.getD ob4 (4 : Nat) (0 : UInt32)) (11 : Int)) fun r1 => Option.bind (q209 N (List.getD ob4 (4 : Nat) (0 : UInt32)) (25 : Int)) fun r2 => must (leI (0 : Int) i13 && ltI i13 (↑(64 : Nat) : Int)) (must (leI (0 : Int) i13 && ltI i13 (↑(64 : Nat) : Int)) (Option.bind (q209 N (List.getD ob4 (0 : Nat) (0 : UInt32)) (2 : Int)) fun r3 => Option.bind (q209 N (List.getD ob4 (0 : Nat) (0 : UInt32)) (13 : Int)) fun r4 => Option.bind (q209 N (List.getD ob4 (0 : Nat) (0 : UInt32)) (22 : Int)) fun r5 => A_13 ((wr (i13 + (1 : Int)))) ob0 ob1 ob2 ob3 ([(((((List.getD ob4 (7 : Nat) (0 : UInt32) + ((Prod.fst r0 ^^^ Prod.fst r1) ^^^ Prod.fst r2)) + ((List.getD ob4 (4 : Nat) (0 : UInt32) &&& List.getD ob4 (5 : Nat) (0 : UInt32)) ^^^ ((~~~List.getD ob4 (4 : Nat) (0 : UInt32)) &&& List.getD ob4 (6 : Nat) (0 : UInt32)))) + List.getD ob1 i13.toNat (0 : UInt32)) + List.getD ob3 i13.toNat (0 : UInt32)) + (((Prod.fst r3 ^^^ Prod.fst r4) ^^^ Prod.fst r5) + (((List.getD ob4 (0 : Nat) (0 : UInt32) &&& List.getD ob4 (1 : Nat) (0 : UInt32)) ^^^ (List.getD ob4 (0 : Nat) (0 : UInt32) &&& List.getD ob4 (2 : Nat) (0 : UInt32))) ^^^ (List.getD ob4 (1 : Nat) (0 : UInt32) &&& List.getD ob4 (2 : Nat) (0 : UInt32))))), List.getD ob4 (0 : Nat) (0 : UInt32), List.getD ob4 (1 : Nat) (0 : UInt32), List.getD ob4 (2 : Nat) (0 : UInt32), (List.getD ob4 (3 : Nat) (0 : UInt32) + ((((List.getD ob4 (7 : Nat) (0 : UInt32) + ((Prod.fst r0 ^^^ Prod.fst r1) ^^^ Prod.fst r2)) + ((List.getD ob4 (4 : Nat) (0 : UInt32) &&& List.getD ob4 (5 : Nat) (0 : UInt32)) ^^^ ((~~~List.getD ob4 (4 : Nat) (0 : UInt32)) &&& List.getD ob4 (6 : Nat) (0 : UInt32)))) + List.getD ob1 i13.toNat (0 : UInt32)) + List.getD ob3 i13.toNat (0 : UInt32))), List.getD ob4 (4 : Nat) (0 : UInt32), List.getD ob4 (5 : Nat) (0 : UInt32), List.getD ob4 (6 : Nat) (0 : UInt32)])))) (ze8 N N (0 : Int) ob0 ob2 ob4)
theorem zmO : ziA = zdV := by
  (repeat (apply funext; intro _))
  simp only [ziA, zdV, hide_eq, zmN, zpg]
def zdW (N n : Nat) (i13 : Int) (ob0 ob1 ob2 ob3 ob4 : List UInt32) : Option (List UInt32 × Unit) :=
  zaj (fun A x => zdV N (fun i13 ob0 ob1 ob2 ob3 ob4 => A (((), ((), ((), ((), ((), (i13, ())))))), (ob0, (ob1, (ob2, (ob3, (ob4, ()))))))) x.1.2.2.2.2.2.1 x.2.1 x.2.2.1 x.2.2.2.1 x.2.2.2.2.1 x.2.2.2.2.2.1) n (((), ((), ((), ((), ((), (i13, ())))))), (ob0, (ob1, (ob2, (ob3, (ob4, ()))))))
theorem zmP : ziB = zdW := by
  (repeat (apply funext; intro _))
  simp only [ziB, zdW, zmO]
theorem zd9 (N n : Nat) (i13 : Int) (ob0 ob1 ob2 ob3 ob4 : List UInt32) : zdW N (n + 1) i13 ob0 ob1 ob2 ob3 ob4 = zdV N (zdW N n) i13 ob0 ob1 ob2 ob3 ob4 := rfl
def zfZ (N : Nat) (A_7 : Int -> (List UInt32) -> (List UInt32) -> (List UInt32) -> (List UInt32) -> Option (List UInt32 × Unit)) (i9 : Int) (ob0 ob1 ob2 ob3 : List UInt32) : Option (List UInt32 × Unit) :=
  cond ((ltI i9 (64 : Int))) (must (leI (0 : Int) ((wr (i9 - (15 : Int)))) && ltI ((wr (i9 - (15 : Int)))) (↑(64 : Nat) : Int)) (must (leI (0 : Int) ((wr (i9 - (2 : Int)))) && ltI ((wr (i9 - (2 : Int)))) (↑(64 : Nat) : Int)) (must (leI (0 : Int) ((wr (i9 - (16 : Int)))) && ltI ((wr (i9 - (16 : Int)))) (↑(64 : Nat) : Int)) (Option.bind (q209 N (List.getD ob3 (Int.toNat ((wr (i9 - (15 : Int))))) (0 : UInt32)) (7 : Int)) fun r0 => Option.bind (q209 N (List.getD ob3 (Int.toNat ((wr (i9 - (15 : Int))))) (0 : UInt32)) (18 : Int)) fun r1 => must (leI (0 : Int) ((wr (i9 - (7 : Int)))) && ltI ((wr (i9 - (7 : Int)))) (↑(64 : Nat) : Int)) (Option.bind (q209 N (List.getD ob3 (Int.toNat ((wr (i9 - (2 : Int))))) (0 : UInt32)) (17 : Int)) fun r2 => Option.bind (q209 N (List.getD ob3 (Int.toNat ((wr (i9 - (2 : Int))))) (0 : UInt32)) (19 : Int)) fun r3 => must (leI (0 : Int) i9 && ltI i9 (↑(64 : Nat) : Int)) (A_7 ((wr (i9 + (1 : Int)))) ob0 ob1 ob2 (setL ob3 i9.toNat ((((List.getD ob3 (Int.toNat ((wr (i9 - (16 : Int))))) (0 : UInt32) + ((Prod.fst r0 ^^^ Prod.fst r1) ^^^ (zbz (List.getD ob3 (Int.toNat ((wr (i9 - (15 : Int))))) (0 : UInt32)) (UInt64.toNat (3 : UInt64))))) + List.getD ob3 (Int.toNat ((wr (i9 - (7 : Int))))) (0 : UInt32)) + ((Prod.fst r2 ^^^ Prod.fst r3) ^^^ (zbz (List.getD ob3 (Int.toNat ((wr (i9 - (2 : Int))))) (0 : UInt32)) (UInt64.toNat (10 : UInt64))))))))))))) (must (Nat.beq ob0.length (8 : Nat)) (zdW N N (0 : Int) ob0 ob1 ob2 ob3 ob0))
theorem zoC : zmp = zfZ := by
  (repeat (apply funext; intro _))
  simp only [zmp, zfZ, hide_eq, zmP, zpg]
def zf0 (N n : Nat) (i9 : Int) (ob0 ob1 ob2 ob3 : List UInt32) : Option (List UInt32 × Unit) :=
  zaj (fun A x => zfZ N (fun i9 ob0 ob1 ob2 ob3 => A (((), ((), ((), ((), (i9, ()))))), (ob0, (ob1, (ob2, (ob3, ())))))) x.1.2.2.2.2.1 x.2.1 x.2.2.1 x.2.2.2.1 x.2.2.2.2.1) n (((), ((), ((), ((), (i9, ()))))), (ob0, (ob1, (ob2, (ob3, ())))))
theorem zoD : zmq = zf0 := by
  (repeat (apply funext; intro _))
  simp only [zmq, zf0, zoC]
theorem ze9 (N n : Nat) (i9 : Int) (ob0 ob1 ob2 ob3 : List UInt32) : zf0 N (n + 1) i9 ob0 ob1 ob2 ob3 = zfZ N (zf0 N n) i9 ob0 ob1 ob2 ob3 := rfl
def zf1 (N : Nat) (A_3 : Int -> (List UInt32) -> (List UInt8) -> (List UInt32) -> (List UInt32) -> (List UInt32) -> Option (List UInt32 × Unit)) (i8 : Int) (ob0 : List UInt32) (ob1 : List UInt8) (ob2 ob3 ob4 : List UInt32) : Option (List UInt32 × Unit) :=
  cond ((ltI i8 (64 : Int))) (must (leI (0 : Int) ((wr (Int.tdiv i8 (4 : Int)))) && ltI ((wr (Int.tdiv i8 (4 : Int)))) (↑(64 : Nat) : Int)) (must (leI (0 : Int) i8 && ltI i8 (↑(64 : Nat) : Int)) (must (leI (0 : Int) ((wr (Int.tdiv i8 (4 : Int)))) && ltI ((wr (Int.tdiv i8 (4 : Int)))) (↑(64 : Nat) : Int)) (A_3 ((wr (i8 + (1 : Int)))) ob0 ob1 ob2 ob3 (setL ob4 (Int.toNat ((wr (Int.tdiv i8 (4 : Int))))) (((zcv (List.getD ob4 (Int.toNat ((wr (Int.tdiv i8 (4 : Int))))) (0 : UInt32)) (UInt64.toNat (8 : UInt64))) + (UInt32.ofNat (UInt8.toNat (List.getD ob1 i8.toNat (0 : UInt8))))))))))) (zf0 N N (16 : Int) ob0 ob2 ob3 ob4)
theorem zoE : zmr = zf1 := by
  (repeat (apply funext; intro _))
  simp only [zmr, zf1, hide_eq, zoD]
def zf2 (N n : Nat) (i8 : Int) (ob0 : List UInt32) (ob1 : List UInt8) (ob2 ob3 ob4 : List UInt32) : Option (List UInt32 × Unit) :=
  zaj (fun A x => zf1 N (fun i8 ob0 ob1 ob2 ob3 ob4 => A (((), ((), ((), ((), ((), (i8, ())))))), (ob0, (ob1, (ob2, (ob3, (ob4, ()))))))) x.1.2.2.2.2.2.1 x.2.1 x.2.2.1 x.2.2.2.1 x.2.2.2.2.1 x.2.2.2.2.2.1) n (((), ((), ((), ((), ((), (i8, ())))))), (ob0, (ob1, (ob2, (ob3, (ob4, ()))))))
theorem zoF : zms = zf2 := by
  (repeat (apply funext; intro _))
  simp only [zms, zf2, zoE]
theorem zfa (N n : Nat) (i8 : Int) (ob0 : List UInt32) (ob1 : List UInt8) (ob2 ob3 ob4 : List UInt32) : zf2 N (n + 1) i8 ob0 ob1 ob2 ob3 ob4 = zf1 N (zf2 N n) i8 ob0 ob1 ob2 ob3 ob4 := rfl
def q152 (N : Nat) (h0 : List UInt32) (b1 : List UInt8) (k2 : List UInt32) : Option (List UInt32 × Unit) :=
  must (Nat.beq h0.length (8 : Nat)) (must (Nat.beq b1.length (64 : Nat)) (must (Nat.beq k2.length (64 : Nat)) (zf2 N N (0 : Int) h0 b1 k2 ([(0 : UInt32), (0 : UInt32), (0 : UInt32), (0 : UInt32), (0 : UInt32), (0 : UInt32), (0 : UInt32), (0 : UInt32)]) ([(0 : UInt32), (0 : UInt32), (0 : UInt32), (0 : UInt32), (0 : UInt32), (0 : UInt32), (0 : UInt32), (0 : UInt32), (0 : UInt32), (0 : UInt32), (0 : UInt32), (0 : UInt32), (0 : UInt32), (0 : UInt32), (0 : UInt32), (0 : UInt32), (0 : UInt32), (0 : UInt32), (0 : UInt32), (0 : UInt32), (0 : UInt32), (0 : UInt32), (0 : UInt32), (0 : UInt32), (0 : UInt32), (0 : UInt32), (0 : UInt32), (0 : UInt32), (0 : UInt32), (0 : UInt32), (0 : UInt32), (0 : UInt32), (0 : UInt32), (0 : UInt32), (0 : UInt32), (0 : UInt32), (0 : UInt32), (0 : UInt32), (0 : UInt32), (0 : UInt32), (0 : UInt32), (0 : UInt32), (0 : UInt32), (0 : UInt32), (0 : UInt32), (0 : UInt32), (0 : UInt32), (0 : UInt32), (0 : UInt32), (0 : UInt32), (0 : UInt32), (0 : UInt32), (0 : UInt32), (0 : UInt32), (0 : UInt32), (0 : UInt32), (0 : UInt32), (0 : UInt32), (0 : UInt32), (0 : UInt32), (0 : UInt32), (0 : UInt32), (0 : UInt32), (0 : UInt32)]))))
theorem zpk : p152 = q152 := by
  (repeat (apply funext; intro _))
  simp only [p152, q152, zoF]
def q49 (N : Nat) (h0 : List UInt32) (b1 : List UInt8) : Option (List UInt32 × Unit) :=
  must (Nat.beq h0.length (8 : Nat)) (must (Nat.beq b1.length (64 : Nat)) (Option.bind (q151 N) fun r0 => Option.bind (q152 N h0 b1 r0.1) fun r1 => must (Nat.beq r1.1.length (8 : Nat)) (some ((Prod.fst r1, ())))))
theorem ztB : p49 = q49 := by
  (repeat (apply funext; intro _))
  simp only [p49, q49, zpj, zpk]
def zmQ (N : Nat) (A_18 : Int -> (List UInt8) -> (List UInt32) -> (List UInt8) -> Option (List UInt8 × Unit)) (i10 : Int) (ob0 : List UInt8) (ob1 : List UInt32) (ob2 : List UInt8) : Option (List UInt8 × Unit) :=
  cond ((ltI i10 (32 : Int))) (must (leI (0 : Int) ((wr (Int.tdiv i10 (4 : Int)))) && ltI ((wr (Int.tdiv i10 (4 : Int)))) (↑(8 : Nat) : Int)) (must (leI (0 : Int) ((wr ((24 : Int) - (wr ((8 : Int) * (Int.tmod i10 (4 : Int)))))))) (must (ltI ((wr ((24 : Int) - (wr ((8 : Int) * (Int.tmod i10 (4 : Int))))))) (18446744073709551616 : Int)) (must (leI (0 : Int) i10 && ltI i10 (↑(32 : Nat) : Int)) (A_18 ((wr (i10 + (1 : Int)))) ob0 ob1 (setL ob2 i10.toNat ((UInt8.ofNat (UInt32.toNat ((zbz (List.getD ob1 (Int.toNat ((wr (Int.tdiv i10 (4 : Int))))) (0 : UInt32)) (UInt64.toNat (UInt64.ofNat (Int.toNat ((wr ((24 : Int) - (wr ((8 : Int) * (Int.tmod i10 (4 : Int))))))))))))))))))))) (must (Nat.beq ob2.length (32 : Nat)) (some ((ob2, ()))))
theorem zoG : zmv = zmQ := by
  (repeat (apply funext; intro _))
  simp only [zmv, zmQ, hide_eq]
def zjk (N n : Nat) (i10 : Int) (ob0 : List UInt8) (ob1 : List UInt32) (ob2 : List UInt8) : Option (List UInt8 × Unit) :=
  zaj (fun A x => zmQ N (fun i10 ob0 ob1 ob2 => A (((), ((), ((), (i10, ())))), (ob0, (ob1, (ob2, ()))))) x.1.2.2.2.1 x.2.1 x.2.2.1 x.2.2.2.1) n (((), ((), ((), (i10, ())))), (ob0, (ob1, (ob2, ()))))
theorem zoH : zmw = zjk := by
  (repeat (apply funext; intro _))
  simp only [zmw, zjk, zoG]
def zf3 (N : Nat) (A_11 : Int -> (List UInt8) -> (List UInt8) -> (List UInt32) -> (List UInt32) -> Option (List UInt8 × Unit)) (i7 : Int) (b0o ob1 : List UInt8) (ob2 ob3 : List UInt32) : Option (List UInt8 × Unit) :=
  cond ((ltI i7 (↑b0o.length : Int))) (must (leI (0 : Int) i7 && (leI i7 ((wr (i7 + (64 : Int)))) && leI ((wr (i7 + (64 : Int)))) (↑b0o.length : Int))) (Option.bind (q152 N ob2 (zae [(0 : UInt8), (0 : UInt8), (0 : UInt8), (0 : UInt8), (0 : UInt8), (0 : UInt8), (0 : UInt8), (0 : UInt8), (0 : UInt8), (0 : UInt8), (0 : UInt8), (0 : UInt8), (0 : UInt8), (0 : UInt8), (0 : UInt8), (0 : UInt8), (0 : UInt8), (0 : UInt8), (0 : UInt8), (0 : UInt8), (0 : UInt8), (0 : UInt8), (0 : UInt8), (0 : UInt8), (0 : UInt8), (0 : UInt8), (0 : UInt8), (0 : UInt8), (0 : UInt8), (0 : UInt8), (0 : UInt8), (0 : UInt8), (0 : UInt8), (0 : UInt8), (0 : UInt8), (0 : UInt8), (0 : UInt8), (0 : UInt8), (0 : UInt8), (0 : UInt8), (0 : UInt8), (0 : UInt8), (0 : UInt8), (0 : UInt8), (0 : UInt8), (0 : UInt8), (0 : UInt8), (0 : UInt8), (0 : UInt8), (0 : UInt8), (0 : UInt8), (0 : UInt8), (0 : UInt8), (0 : UInt8), (0 : UInt8), (0 : UInt8), (0 : UInt8), (0 : UInt8), (0 : UInt8), (0 : UInt8), (0 : UInt8), (0 : UInt8), (0 : UInt8), (0 : UInt8)] (Int.toNat (0 : Int)) (List.take (Int.toNat ((↑(64 : Nat) : Int) - (0 : Int))) (List.take (Int.toNat ((wr (i7 + (64 : Int))) - i7)) (List.drop i7.toNat b0o)))) ob3) fun r0 => must (Nat.beq r0.1.length (8 : Nat)) (A_11 ((wr (i7 + (64 : Int)))) b0o ob1 r0.1 ob3))) (zjk N N (0 : Int) ob1 ob2 ([(0 : UInt8), (0 : UInt8), (0 : UInt8), (0 : UInt8), (0 : UInt8), (0 : UInt8), (0 : UInt8), (0 : UInt8), (0 : UInt8), (0 : UInt8), (0 : UInt8), (0 : UInt8), (0 : UInt8), (0 : UInt8), (0 : UInt8), (0 : UInt8), (0 : UInt8), (0 : UInt8), (0 : UInt8), (0 : UInt8), (0 : UInt8), (0 : UInt8), (0 : UInt8), (0 : UInt8), (0 : UInt8), (0 : UInt8), (0 : UInt8), (0 : UInt8), (0 : UInt8), (0 : UInt8), (0 : UInt8), (0 : UInt8)]))
theorem zoI : zmx = zf3 := by
  (repeat (apply funext; intro _))
  simp only [zmx, zf3, hide_eq, zoH, zpk]
def zf4 (N n : Nat) (i7 : Int) (b0o ob1 : List UInt8) (ob2 ob3 : List UInt32) : Option (List UInt8 × Unit) :=
  zaj (fun A x => zf3 N (fun i7 b0o ob1 ob2 ob3 => A (((), ((), ((), ((), (i7, ()))))), (b0o, (ob1, (ob2, (ob3, ())))))) x.1.2.2.2.2.1 x.2.1 x.2.2.1 x.2.2.2.1 x.2.2.2.2.1) n (((), ((), ((), ((), (i7, ()))))), (b0o, (ob1, (ob2, (ob3, ())))))
theorem zoJ : zmy = zf4 := by
  (repeat (apply funext; intro _))
  simp only [zmy, zf4, zoI]
theorem zfb (N n : Nat) (i7 : Int) (b0o ob1 : List UInt8) (ob2 ob3 : List UInt32) : zf4 N (n + 1) i7 b0o ob1 ob2 ob3 = zf3 N (zf4 N n) i7 b0o ob1 ob2 ob3 := rfl
def zki (N : Nat) (A_6 : UInt64 -> Int -> (List UInt8) -> (List UInt8) -> Option (List UInt8 × Unit)) (n3 : UInt64) (i4 : Int) (b0o ob1 : List UInt8) : Option (List UInt8 × Unit) :=
  cond ((leI (0 : Int) i4)) (must (leI (0 : Int) ((wr ((8 : Int) * i4)))) (must (ltI ((wr ((8 : Int) * i4))) (18446744073709551616 : Int)) (must (leN ((List.length b0o + List.length [(UInt8.ofNat (UInt64.toNat ((zas n3 (UInt64.toNat (UInt64.ofNat (Int.toNat ((wr ((8 : Int) * i4))))))))))]) * (1 : Nat)) (140737488355328 : Nat)) (A_6 n3 ((wr (i4 - (1 : Int)))) (b0o ++ [(UInt8.ofNat (UInt64.toNat ((zas n3 (UInt64.toNat (UInt64.ofNat (Int.toNat ((wr ((8 : Int) * i4))))))))))]) ob1)))) (Option.bind (q50 N) fun r0 => Option.bind (q151 N) fun r1 => must (Nat.beq r0.1.length (8 : Nat)) (must (Nat.beq r1.1.length (64 : Nat)) (zf4 N N (0 : Int) b0o ob1 r0.1 r1.1)))
theorem zqI : zqp = zki := by
  (repeat (apply funext; intro _))
  simp only [zqp, zki, hide_eq, zoJ, zpj, ztA]
def zgJ (N n : Nat) (n3 : UInt64) (i4 : Int) (b0o ob1 : List UInt8) : Option (List UInt8 × Unit) :=
  zaj (fun A x => zki N (fun n3 i4 b0o ob1 => A (((), ((), (n3, (i4, ())))), (b0o, (ob1, ())))) x.1.2.2.1 x.1.2.2.2.1 x.2.1 x.2.2.1) n (((), ((), (n3, (i4, ())))), (b0o, (ob1, ())))
theorem zqJ : zqq = zgJ := by
  (repeat (apply funext; intro _))
  simp only [zqq, zgJ, zqI]
theorem zf5 (N n : Nat) (n3 : UInt64) (i4 : Int) (b0o ob1 : List UInt8) : zgJ N (n + 1) n3 i4 b0o ob1 = zki N (zgJ N n) n3 i4 b0o ob1 := rfl
def zkj (N : Nat) (A_3 : UInt64 -> (List UInt8) -> (List UInt8) -> Option (List UInt8 × Unit)) (n3 : UInt64) (b0o ob1 : List UInt8) : Option (List UInt8 × Unit) :=
  cond (!eqI ((Int.tmod (↑b0o.length : Int) (64 : Int))) (56 : Int)) (must (leN ((List.length b0o + List.length [(0 : UInt8)]) * (1 : Nat)) (140737488355328 : Nat)) (A_3 n3 (b0o ++ [(0 : UInt8)]) ob1)) (zgJ N N n3 (7 : Int) b0o ob1)
theorem zqK : zqr = zkj := by
  (repeat (apply funext; intro _))
  simp only [zqr, zkj, hide_eq, zqJ]
def zkk (N n : Nat) (n3 : UInt64) (b0o ob1 : List UInt8) : Option (List UInt8 × Unit) :=
  zaj (fun A x => zkj N (fun n3 b0o ob1 => A (((), ((), (n3, ()))), (b0o, (ob1, ())))) x.1.2.2.1 x.2.1 x.2.2.1) n (((), ((), (n3, ()))), (b0o, (ob1, ())))
theorem zqL : zqs = zkk := by
  (repeat (apply funext; intro _))
  simp only [zqs, zkk, zqK]
theorem zf6 (N n : Nat) (n3 : UInt64) (b0o ob1 : List UInt8) : zkk N (n + 1) n3 b0o ob1 = zkj N (zkk N n) n3 b0o ob1 := rfl
def q46 (N : Nat) (b0 : List UInt8) : Option (List UInt8 × Unit) :=
  must (leN (((0 : Nat) + List.length b0) * (1 : Nat)) (140737488355328 : Nat)) (must (leN ((List.length b0 + List.length [(128 : UInt8)]) * (1 : Nat)) (140737488355328 : Nat)) (zkk N N (((u64I (↑b0.length : Int)) * (8 : UInt64))) (b0 ++ [(128 : UInt8)]) ([(0 : UInt8), (0 : UInt8), (0 : UInt8), (0 : UInt8), (0 : UInt8), (0 : UInt8), (0 : UInt8), (0 : UInt8), (0 : UInt8), (0 : UInt8), (0 : UInt8), (0 : UInt8), (0 : UInt8), (0 : UInt8), (0 : UInt8), (0 : UInt8), (0 : UInt8), (0 : UInt8), (0 : UInt8), (0 : UInt8), (0 : UInt8), (0 : UInt8), (0 : UInt8), (0 : UInt8), (0 : UInt8), (0 : UInt8), (0 : UInt8), (0 : UInt8), (0 : UInt8), (0 : UInt8), (0 : UInt8), (0 : UInt8)])))
theorem ztC : p46 = q46 := by
  (repeat (apply funext; intro _))
  simp only [p46, q46, hide_eq, zqL]
def q43 (N : Nat) : Option (Bool × Unit) :=
  Option.bind (q42 N []) fun r0 => must (Nat.beq r0.1.length (32 : Nat)) (cond ((List.getD r0.1 (0 : Nat) (0 : UInt8) == (227 : UInt8))) (cond ((List.getD r0.1 (1 : Nat) (0 : UInt8) == (176 : UInt8))) (some (((List.getD r0.1 (31 : Nat) (0 : UInt8) == (85 : UInt8)), ()))) (some ((false, ())))) (some ((false, ()))))
theorem ztD : p43 = q43 := by
  (repeat (apply funext; intro _))
  simp only [p43, q43, hide_eq, zsg]
def ztE (N : Nat) (A_19 : Int -> (List UInt32) -> (List UInt8) -> Option (Bool × Unit)) (i9 : Int) (ob0 : List UInt32) (ob1 : List UInt8) : Option (Bool × Unit) :=
  cond ((ltI i9 (32 : Int))) (must (leI (0 : Int) i9 && ltI i9 (↑(32 : Nat) : Int)) (must (leI (0 : Int) ((wr (Int.tdiv i9 (4 : Int)))) && ltI ((wr (Int.tdiv i9 (4 : Int)))) (↑(8 : Nat) : Int)) (must (leI (0 : Int) ((wr ((24 : Int) - (wr ((8 : Int) * (Int.tmod i9 (4 : Int)))))))) (must (ltI ((wr ((24 : Int) - (wr ((8 : Int) * (Int.tmod i9 (4 : Int))))))) (18446744073709551616 : Int)) (cond (!List.getD ob1 i9.toNat (0 : UInt8) == (UInt8.ofNat (UInt32.toNat ((zbz (List.getD ob0 (Int.toNat ((wr (Int.tdiv i9 (4 : Int))))) (0 : UInt32)) (UInt64.toNat (UInt64.ofNat (Int.toNat ((wr ((24 : Int) - (wr ((8 : Int) * (Int.tmod i9 (4 : Int))))))))))))))) (some ((false, ()))) (A_19 ((wr (i9 + (1 : Int)))) ob0 ob1)))))) (some ((true, ())))
def ztF (N n : Nat) (i9 : Int) (ob0 : List UInt32) (ob1 : List UInt8) : Option (Bool × Unit) :=
  zaj (fun A x => ztE N (fun i9 ob0 ob1 => A (((), ((), (i9, ()))), (ob0, (ob1, ())))) x.1.2.2.1 x.2.1 x.2.2.1) n (((), ((), (i9, ()))), (ob0, (ob1, ())))
def ztG (N : Nat) (A_12 : (List UInt8) -> Int -> (List UInt8) -> (List UInt32) -> Option (Bool × Unit)) (b0 : List UInt8) (i6 : Int) (x3o : List UInt8) (ob1 : List UInt32) : Option (Bool × Unit) :=
  cond ((ltI i6 (↑x3o.length : Int))) (must (leI (0 : Int) i6 && (leI i6 ((wr (i6 + (64 : Int)))) && leI ((wr (i6 + (64 : Int)))) (↑x3o.length : Int))) (Option.bind (q48 N ob1 (zae [(0 : UInt8), (0 : UInt8), (0 : UInt8), (0 : UInt8), (0 : UInt8), (0 : UInt8), (0 : UInt8), (0 : UInt8), (0 : UInt8), (0 : UInt8), (0 : UInt8), (0 : UInt8), (0 : UInt8), (0 : UInt8), (0 : UInt8), (0 : UInt8), (0 : UInt8), (0 : UInt8), (0 : UInt8), (0 : UInt8), (0 : UInt8), (0 : UInt8), (0 : UInt8), (0 : UInt8), (0 : UInt8), (0 : UInt8), (0 : UInt8), (0 : UInt8), (0 : UInt8), (0 : UInt8), (0 : UInt8), (0 : UInt8), (0 : UInt8), (0 : UInt8), (0 : UInt8), (0 : UInt8), (0 : UInt8), (0 : UInt8), (0 : UInt8), (0 : UInt8), (0 : UInt8), (0 : UInt8), (0 : UInt8), (0 : UInt8), (0 : UInt8), (0 : UInt8), (0 : UInt8), (0 : UInt8), (0 : UInt8), (0 : UInt8), (0 : UInt8), (0 : UInt8), (0 : UInt8), (0 : UInt8), (0 : UInt8), (0 : UInt8), (0 : UInt8), (0 : UInt8), (0 : UInt8), (0 : UInt8), (0 : UInt8), (0 : UInt8), (0 : UInt8), (0 : UInt8)] (Int.toNat (0 : Int)) (List.take (Int.toNat ((↑(64 : Nat) : Int) - (0 : Int))) (List.take (Int.toNat ((wr (i6 + (64 : Int))) - i6)) (List.drop i6.toNat x3o))))) fun r1 => must (Nat.beq r1.1.length (8 : Nat)) (A_12 b0 ((wr (i6 + (64 : Int)))) x3o r1.1))) (Option.bind (q42 N b0) fun r0 => must (Nat.beq r0.1.length (32 : Nat)) (ztF N N (0 : Int) ob1 r0.1))
def ztH (N n : Nat) (b0 : List UInt8) (i6 : Int) (x3o : List UInt8) (ob1 : List UInt32) : Option (Bool × Unit) :=
  zaj (fun A x => ztG N (fun b0 i6 x3o ob1 => A ((b0, ((), ((), (i6, ())))), (x3o, (ob1, ())))) x.1.1 x.1.2.2.2.1 x.2.1 x.2.2.1) n ((b0, ((), ((), (i6, ())))), (x3o, (ob1, ())))
def c5_6 (N : Nat) (A_6 : (List UInt8) -> (List UInt8) -> Option (Bool × Unit)) (b0 x3o : List UInt8) : Option (Bool × Unit) :=
  cond (!eqI ((Int.tmod (↑x3o.length : Int) (64 : Int))) (56 : Int)) (must (leN ((List.length x3o + List.length [(0 : UInt8)]) * (1 : Nat)) (140737488355328 : Nat)) (A_6 b0 (x3o ++ [(0 : UInt8)]))) (must (leN ((List.length x3o + List.length [(0 : UInt8), (0 : UInt8), (0 : UInt8), (0 : UInt8), (0 : UInt8), (0 : UInt8), (u8I ((shrI ((wr ((↑b0.length : Int) * (8 : Int)))) (UInt64.toNat (8 : UInt64))))), (u8I ((wr ((↑b0.length : Int) * (8 : Int)))))]) * (1 : Nat)) (140737488355328 : Nat)) (Option.bind (q50 N) fun r0 => must (Nat.beq r0.1.length (8 : Nat)) (ztH N N b0 (0 : Int) (x3o ++ [(0 : UInt8), (0 : UInt8), (0 : UInt8), (0 : UInt8), (0 : UInt8), (0 : UInt8), (u8I ((shrI ((wr ((↑b0.length : Int) * (8 : Int)))) (UInt64.toNat (8 : UInt64))))), (u8I ((wr ((↑b0.length : Int) * (8 : Int)))))]) r0.1)))
def m5_6 (N n : Nat) (b0 x3o : List UInt8) : Option (Bool × Unit) :=
  zaj (fun A x => c5_6 N (fun b0 x3o => A ((b0, ((), ())), (x3o, ()))) x.1.1 x.2.1) n ((b0, ((), ())), (x3o, ()))
def q5 (N : Nat) (b0 : List UInt8) : Option (Bool × Unit) :=
  Option.bind (q43 N) fun r0 => cond (!r0.1) (some ((false, ()))) (cond ((ltI (400 : Int) (↑b0.length : Int))) (some ((true, ()))) (must (leN (((0 : Nat) + List.length b0) * (1 : Nat)) (140737488355328 : Nat)) (must (leN ((List.length b0 + List.length [(128 : UInt8)]) * (1 : Nat)) (140737488355328 : Nat)) (m5_6 N N b0 (b0 ++ [(128 : UInt8)])))))
end Go.Proofs.Ytgimohchocjgcaa.V
