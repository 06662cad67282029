import Derived.Test.YtgimohchocjgcaaVME
import Derived.Test.YtgimohchocjgcaaProg
import Derived.KernelRfl
import Derived.Shelf.SlicesE.Clone
import Derived.Shelf.Spec.SlicesGrow
set_option linter.unusedVariables false
set_option linter.unusedSimpArgs false
namespace Go.Proofs.Ytgimohchocjgcaa.V
section
def pd : PD := ⟨[
  (2, ⟨.int .i64, 1, 8, [.int 0]⟩),
  (3, ⟨.int .i64, 1, 8, [.int 0]⟩),
  (4, ⟨.bool, 1, 1, [.bool false]⟩),
  (5, ⟨.int .u8, 1, 1, [.u8 0]⟩),
  (9, ⟨.str, 1, 16, [.str []]⟩),
  (22, ⟨.arr 32 5, 32, 32, List.replicate 32 (.u8 0)⟩),
  (24, ⟨.slice 5, 1, 24, [.ro .u8 []]⟩),
  (27, ⟨.int .u32, 1, 4, [.u32 0]⟩),
  (28, ⟨.arr 8 27, 8, 32, List.replicate 8 (.u32 0)⟩),
  (29, ⟨.arr 64 5, 64, 64, List.replicate 64 (.u8 0)⟩),
  (34, ⟨.int .u64, 1, 8, [.u64 0]⟩),
  (37, ⟨.slice 42, 1, 24, [.ro .u64 []]⟩),
  (38, ⟨.int .i64, 1, 8, [.int 0]⟩),
  (42, ⟨.int .u64, 1, 8, [.u64 0]⟩),
  (52, ⟨.arr 4 42, 4, 32, [.u64 0, .u64 0, .u64 0, .u64 0]⟩),
  (53, ⟨.arr 4 42, 4, 32, [.u64 0, .u64 0, .u64 0, .u64 0]⟩),
  (69, ⟨.slice 53, 1, 24, [.ro .fr []]⟩),
  (70, ⟨.arr 3 69, 3, 72, [.ro .fr [], .ro .fr [], .ro .fr []]⟩),
  (77, ⟨.slice 116, 1, 24, [.ro .row []]⟩),
  (78, ⟨.slice 158, 1, 24, [.ro .pair []]⟩),
  (79, ⟨.struct [(0, 3), (1, 3), (2, 77), (3, 78)], 4, 64, [.int 0, .int 0, .ro .row [], .ro .pair []]⟩),
  (80, ⟨.struct [(0, 3), (1, 3), (2, 77), (3, 78)], 4, 64, [.int 0, .int 0, .ro .row [], .ro .pair []]⟩),
  (81, ⟨.slice 112, 1, 24, [.ro .step []]⟩),
  (82, ⟨.struct [(0, 80), (4, 69), (5, 69), (6, 81)], 7, 136, [.int 0, .int 0, .ro .row [], .ro .pair [], .ro .fr [], .ro .fr [], .ro .step []]⟩),
  (83, ⟨.struct [(0, 80), (4, 69), (5, 69), (6, 81)], 7, 136, [.int 0, .int 0, .ro .row [], .ro .pair [], .ro .fr [], .ro .fr [], .ro .step []]⟩),
  (85, ⟨.arr 8 69, 8, 192, List.replicate 8 (.ro .fr [])⟩),
  (86, ⟨.struct [(0, 3), (1, 85), (9, 70), (12, 70)], 15, 344, [.int 0, .ro .fr [], .ro .fr [], .ro .fr [], .ro .fr [], .ro .fr [], .ro .fr [], .ro .fr [], .ro .fr [], .ro .fr [], .ro .fr [], .ro .fr [], .ro .fr [], .ro .fr [], .ro .fr []]⟩),
  (87, ⟨.struct [(0, 3), (1, 85), (9, 70), (12, 70)], 15, 344, [.int 0, .ro .fr [], .ro .fr [], .ro .fr [], .ro .fr [], .ro .fr [], .ro .fr [], .ro .fr [], .ro .fr [], .ro .fr [], .ro .fr [], .ro .fr [], .ro .fr [], .ro .fr [], .ro .fr []]⟩),
  (93, ⟨.arr 12 53, 48, 384, List.replicate 48 (.u64 0)⟩),
  (96, ⟨.slice 101, 1, 24, [.ro .u8 []]⟩),
  (98, ⟨.ptr 124, 1, 8, [.nilp]⟩),
  (100, ⟨.struct [(0, 4), (1, 5), (2, 24)], 3, 32, [.bool false, .u8 0, .ro .u8 []]⟩),
  (101, ⟨.struct [(0, 4), (1, 5), (2, 24)], 3, 32, [.bool false, .u8 0, .ro .u8 []]⟩),
  (106, ⟨.arr 8 53, 32, 256, List.replicate 32 (.u64 0)⟩),
  (109, ⟨.arr 5 53, 20, 160, List.replicate 20 (.u64 0)⟩),
  (110, ⟨.arr 3 3, 3, 24, [.int 0, .int 0, .int 0]⟩),
  (111, ⟨.struct [(0, 3), (1, 110), (4, 109)], 24, 192, [.int 0, .int 0, .int 0, .int 0, .u64 0, .u64 0, .u64 0, .u64 0, .u64 0, .u64 0, .u64 0, .u64 0, .u64 0, .u64 0, .u64 0, .u64 0, .u64 0, .u64 0, .u64 0, .u64 0, .u64 0, .u64 0, .u64 0, .u64 0]⟩),
  (112, ⟨.struct [(0, 3), (1, 110), (4, 109)], 24, 192, [.int 0, .int 0, .int 0, .int 0, .u64 0, .u64 0, .u64 0, .u64 0, .u64 0, .u64 0, .u64 0, .u64 0, .u64 0, .u64 0, .u64 0, .u64 0, .u64 0, .u64 0, .u64 0, .u64 0, .u64 0, .u64 0, .u64 0, .u64 0]⟩),
  (115, ⟨.struct [(0, 106), (32, 110)], 35, 280, [.u64 0, .u64 0, .u64 0, .u64 0, .u64 0, .u64 0, .u64 0, .u64 0, .u64 0, .u64 0, .u64 0, .u64 0, .u64 0, .u64 0, .u64 0, .u64 0, .u64 0, .u64 0, .u64 0, .u64 0, .u64 0, .u64 0, .u64 0, .u64 0, .u64 0, .u64 0, .u64 0, .u64 0, .u64 0, .u64 0, .u64 0, .u64 0, .int 0, .int 0, .int 0]⟩),
  (116, ⟨.struct [(0, 106), (32, 110)], 35, 280, [.u64 0, .u64 0, .u64 0, .u64 0, .u64 0, .u64 0, .u64 0, .u64 0, .u64 0, .u64 0, .u64 0, .u64 0, .u64 0, .u64 0, .u64 0, .u64 0, .u64 0, .u64 0, .u64 0, .u64 0, .u64 0, .u64 0, .u64 0, .u64 0, .u64 0, .u64 0, .u64 0, .u64 0, .u64 0, .u64 0, .u64 0, .u64 0, .int 0, .int 0, .int 0]⟩),
  (119, ⟨.ptr 122, 1, 8, [.nilp]⟩),
  (121, ⟨.struct [(0, 22)], 32, 32, [.u8 0, .u8 0, .u8 0, .u8 0, .u8 0, .u8 0, .u8 0, .u8 0, .u8 0, .u8 0, .u8 0, .u8 0, .u8 0, .u8 0, .u8 0, .u8 0, .u8 0, .u8 0, .u8 0, .u8 0, .u8 0, .u8 0, .u8 0, .u8 0, .u8 0, .u8 0, .u8 0, .u8 0, .u8 0, .u8 0, .u8 0, .u8 0]⟩),
  (122, ⟨.struct [(0, 22)], 32, 32, [.u8 0, .u8 0, .u8 0, .u8 0, .u8 0, .u8 0, .u8 0, .u8 0, .u8 0, .u8 0, .u8 0, .u8 0, .u8 0, .u8 0, .u8 0, .u8 0, .u8 0, .u8 0, .u8 0, .u8 0, .u8 0, .u8 0, .u8 0, .u8 0, .u8 0, .u8 0, .u8 0, .u8 0, .u8 0, .u8 0, .u8 0, .u8 0]⟩),
  (123, ⟨.struct [(0, 22)], 32, 32, [.u8 0, .u8 0, .u8 0, .u8 0, .u8 0, .u8 0, .u8 0, .u8 0, .u8 0, .u8 0, .u8 0, .u8 0, .u8 0, .u8 0, .u8 0, .u8 0, .u8 0, .u8 0, .u8 0, .u8 0, .u8 0, .u8 0, .u8 0, .u8 0, .u8 0, .u8 0, .u8 0, .u8 0, .u8 0, .u8 0, .u8 0, .u8 0]⟩),
  (124, ⟨.struct [(0, 22)], 32, 32, [.u8 0, .u8 0, .u8 0, .u8 0, .u8 0, .u8 0, .u8 0, .u8 0, .u8 0, .u8 0, .u8 0, .u8 0, .u8 0, .u8 0, .u8 0, .u8 0, .u8 0, .u8 0, .u8 0, .u8 0, .u8 0, .u8 0, .u8 0, .u8 0, .u8 0, .u8 0, .u8 0, .u8 0, .u8 0, .u8 0, .u8 0, .u8 0]⟩),
  (126, ⟨.ptr 136, 1, 8, [.nilp]⟩),
  (128, ⟨.ptr 130, 1, 8, [.nilp]⟩),
  (129, ⟨.struct [(0, 3), (1, 77), (2, 77), (3, 78)], 4, 80, [.int 0, .ro .row [], .ro .row [], .ro .pair []]⟩),
  (130, ⟨.struct [(0, 3), (1, 77), (2, 77), (3, 78)], 4, 80, [.int 0, .ro .row [], .ro .row [], .ro .pair []]⟩),
  (135, ⟨.struct [(0, 3), (1, 77), (2, 77), (3, 78)], 4, 80, [.int 0, .ro .row [], .ro .row [], .ro .pair []]⟩),
  (136, ⟨.struct [(0, 3), (1, 77), (2, 77), (3, 78)], 4, 80, [.int 0, .ro .row [], .ro .row [], .ro .pair []]⟩),
  (140, ⟨.slice 3, 1, 24, [.ro .int []]⟩),
  (148, ⟨.arr 3 140, 3, 72, [.ro .int [], .ro .int [], .ro .int []]⟩),
  (156, ⟨.slice 4, 1, 24, [.ro .bool []]⟩),
  (158, ⟨.arr 2 3, 2, 16, [.int 0, .int 0]⟩),
  (172, ⟨.arr 64 27, 64, 256, List.replicate 64 (.u32 0)⟩),
  (190, ⟨.ptr 3, 1, 8, [.nilp]⟩),
  (197, ⟨.ptr 199, 1, 8, [.nilp]⟩),
  (198, ⟨.struct [(0, 24), (1, 38)], 2, 32, [.ro .u8 [], .int 0]⟩),
  (199, ⟨.struct [(0, 24), (1, 38)], 2, 32, [.ro .u8 [], .int 0]⟩),
  (206, ⟨.arr 5 42, 5, 40, List.replicate 5 (.u64 0)⟩),
  (208, ⟨.ptr 83, 1, 8, [.nilp]⟩),
  (212, ⟨.arr 3 4, 3, 3, [.bool false, .bool false, .bool false]⟩),
  (213, ⟨.slice 77, 1, 24, [.ro .u64 []]⟩)],
  [(3, .int), (4, .bool), (5, .u8), (27, .u32), (42, .u64), (53, .fr), (112, .step), (116, .row), (158, .pair)]⟩
theorem zpG : pdB Try.prog pd = true := by kernel_rfl
theorem za3 : PDok Try.prog pd := zs4 zpG
end
section
open Go.Shelf Go.RowKit Go.Lib
theorem zgX {P : Program} {f : FuncId} {fn : Func} {c : Code} {vs : Array Value} {w : World} {R : Value -> World -> Prop} (hf : P.funcs[f]? = some fn) (hname : fn.name ≠ "runtime.NumGoroutine") (hc : fn.body = some c)
    (h : Calls P f vs w fun e w' => ∃ v, e = .returned v /\ R v w') : zdE P f vs w R := by
  intro o a K Q hK
  have hcall : (callFunc f vs).run P w = .ok (.enter f vs) w := by
    simp [callFunc, run_program, hf, hname, hc]
  rw [hcall, Oper.upon_enter]
  refine h.mono fun e w' ⟨v, he, hr⟩ => ?_
  subst he
  exact hK v w' hr
theorem zgY {els : List (Nat × El)} {e : El} {l : List e.T} {ty : TypeId} (hel : elTy e els = some ty) {w' : World} {base : Nat} {v' : Value} {news : List Value} (h : w'.ownsRow base ty e.size v' l.length news) (hv : Vals (flat e l) news) :
    OwnV els w' (fun b => base <= b) (.u (.c (.ro e l))) v' := by
  obtain ⟨hl, ⟨rfl, hn⟩ | ⟨g, cap, cur, rfl, hg, hm, hc1, hc2, hc3, hc4⟩⟩ := h
  . have := List.eq_nil_of_length_eq_zero hn
    subst this
    exact ⟨[], [.slice none 0 0], .c .nil, .nilr .nil⟩
  . exact ⟨[g], [_], .c .nil, .row hel hm hg (by simp) hc1 hc2 hc3 (by rw [hc4]; exact hv) .nil⟩
theorem ziV {w : World} {ok : Nat -> Prop} {c : C} {u v : Value} (hc : c.val = some v) (h : Holds w ok c u) : u = v := by
  cases h with
  | sc h => rw [hc] at h; cases h; rfl
  | ro => cases hc
  | emp => cases hc
  | rt => cases hc
  | rtemp => cases hc
theorem znz : ∀ (l : List C) (vs : List Value), l.length = vs.length -> (∀ (j : Nat) (c : C) (v : Value), l[j]? = some c -> vs[j]? = some v -> c.val = some v) -> Vals l vs
  | [], [], _, _ => trivial
  | [], _ :: _, h, _ => by simp at h
  | _ :: _, [], h, _ => by simp at h
  | c :: l, v :: vs, h, hg => ⟨hg 0 c v rfl rfl, znz l vs (by simpa using h) fun j c v h1 h2 => hg (j + 1) c v (by simpa using h1) (by simpa using h2)⟩
theorem zk9 : ∀ {l : List C} {vs : List Value}, Vals l vs -> ∀ v ∈ vs, v.oneCell' = true
  | [], [], _, _, hv => by cases hv
  | [], _ :: _, h, _, _ => h.elim
  | _ :: _, [], h, _, _ => h.elim
  | c :: l, v :: vs, h, u, hu => by
    rcases List.mem_cons.1 hu with rfl | hu
    . exact Holds.one (w := default) (ok := fun _ => True) (.sc h.1)
    . exact zk9 h.2 u hu
def zla : Go.Shelf.Ren := ⟨fun n => cond (Nat.beq n 41) 199 n, fun n => cond (Nat.beq n 22) 78 (cond (Nat.beq n 23) 158 n), fun n => n⟩
theorem zgZ : (Try.f199.name == "runtime.NumGoroutine") = false := by kernel_rfl
theorem zl0 : { SlBodyN.n41 zla with name := Try.f199.name } = Try.f199 := by kernel_rfl
theorem zf5 : SlLaysE0.n41 Try.prog zla where
  mixed := by kernel_rfl
  f41 := ⟨Try.f199.name, zgZ, by rw [zl0]; exact Try.func199⟩
  t4 := Try.underlying4
  a4 := Try.isAgg4
  z4 := Try.sizeOf4
  v4 := Try.zeroValue4
  t22 := Try.underlying78
  a22 := Try.isAgg78
  z22 := Try.sizeOf78
  v22 := Try.zeroValue78
theorem zj4 {P : Program} {ρ : Go.Shelf.Ren} (L : SlLaysE0.n41 P ρ) (i0 : TypeInfo) (z : Value) (size bytes : Nat) (hi : P.info? (ρ.t 23) = some i0) (hz0 : i0.zero = some z) (hz1 : i0.size = size) (hz2 : i0.bytes = bytes) (hzs : z.cells.size = size) (hsz : 0 < size)
    (z23 : ∀ w, (Go.sizeOf (ρ.t 23)).run P w = .ok size w) (ad : Addr) (c : Nat) (w : World) :
    Calls P (ρ.f 41) #[.slice (some ad) 0 c] w fun e w' => ∃ v', e = .returned v' /\ w'.ownsRow w.heap.size (ρ.t 23) size v' 0 [] /\ Below w.heap.size w w' := by
  have mixed := L.mixed; have t4 := L.t4; have a4 := L.a4; have z4 := L.z4; have v4 := L.v4; have t22 := L.t22; have a22 := L.a22; have z22 := L.z22; have v22 := L.v22
  have q22 : ∀ (w : World) (a : Option Addr) (n c n' c' : Nat), (binOp .eql (ρ.t 22) (.slice a n c) (.slice none n' c')).run P w = .ok (.bool a.isNone) w := fun w a n c n' c' => Lib.run_eql_slice_nil w _ _ a n c n' c' L.t22
  have u22 : ∀ w, Sem.run P (underlying (ρ.t 22)) w = .ok (TypeDesc.slice (ρ.t 23)) w := run_underlying t22
  obtain ⟨_, _, FG⟩ := L.f41
  go_enter FG, SlBodyN.n41_ntmps ρ
  go_wp2_with (at_builtin; refine wpList_append_own _ rfl _ _ (ρ.t 22) rfl w.heap.size (ρ.t 23) i0 z size bytes t22 hi hz0 hz1 hz2 hzs hsz _ _ _ rfl (World.ownsRow_made w #[] 0 (Nat.le_refl _) (Nat.zero_le _) (by simp)) ad 0 c [] rfl ?qc1 ?qc2 ?qc3 ?qc4 ?qc5 ?qc6 ?_)
  case qc1 => simp
  case qc2 =>
    intro j u hj
    simp at hj
  case qc3 => intro u hu; cases hu
  case qc4 => simp
  case qc5 => simp
  case qc6 => simp
  intro v' w1 hown hgrow hnil
  go_wp2
  go_ret
  refine ⟨v', rfl, by simpa using hown, ?_⟩
  exact ((Below.refl _ w).alloc (Nat.le_refl _) _).grown hgrow (by simp) (by intro k hk; simp [Value.ownBlock] at hk; omega)
theorem ziW {w w' : World} (h : Below w.heap.size w w') : Kept w w' := ⟨h.os, h.tape, h.output, h.size, h.block⟩
theorem SgOK.plain {P : Program} {els : List (Nat × El)} {F n : Nat} {g : Sg} (hm : g.mode = 0) (h : zfH P els n g) (hF : F % 1000000 = n) (hG : Nat.blt F 2000000 = true) : SgOK P els F g :=
  SgOK.of0 ⟨fun _ => h, fun e => absurd hm e, fun e => by rw [hm] at e; cases e⟩ hF hG
theorem SgOK.nilA {P : Program} {els : List (Nat × El)} {F n : Nat} {g : Sg} (h : zpb P els n g) (hF : F % 1000000 = n) (hG : F / 1000000 = 3) : SgOK P els F g :=
  ⟨fun e => by omega, fun e => by omega, fun _ => by rw [hF]; exact h⟩
theorem zpH {P : Program} {els : List (Nat × El)} {f : FuncId} {fn : Func} {g : Sg} (hf : P.funcs[f]? = some fn) (hname : fn.name ≠ "runtime.NumGoroutine") (hc : fn.body.isSome = true)
    (h : ∀ us r, g.run us = some r -> ∀ (w : World) (vs : List Value) ok, (∀ b, ok b -> b < w.heap.size) -> zaV w ok us vs -> Calls P f vs.toArray w fun e w' => ∃ v, e = .returned v /\ (OwnV els w' (fun b => w.heap.size <= b) (g.res r) v /\ Kept w w')) : zfH P els f g := by
  obtain ⟨c, hc⟩ := Option.isSome_iff_exists.1 hc
  intro us r hr w vs ok hok hh
  exact zgX hf hname hc (h us r hr w vs ok hok hh)
theorem zs7 {P : Program} {els : List (Nat × El)} {f : FuncId} {fn : Func} {g : Sg} (hf : P.funcs[f]? = some fn) (hname : fn.name ≠ "runtime.NumGoroutine") (hc : fn.body.isSome = true)
    (h : ∀ us r, g.run us = some r -> ∀ (w : World) (vs : List Value) ok, (∀ b, ok b -> b < w.heap.size) -> zaV w ok us vs -> Calls P f (.slice none 0 0 :: vs).toArray w fun e w' => ∃ v, e = .returned v /\ (OwnV els w' (fun b => w.heap.size <= b) (g.res r) v /\ Kept w w')) : zpb P els f g := by
  obtain ⟨c, hc⟩ := Option.isSome_iff_exists.1 hc
  intro us r hr w vs ok hok hh
  exact zgX hf hname hc (h us r hr w vs ok hok hh)
def p199 (N : Nat) (l : List Pr) : Option (List Pr × Unit) := must (leN (l.length * 16) 140737488355328) (some (l, ()))
def g199 (N : Nat) : Sg := sgK [(K.ro .pair)] [(K.ro .pair)] fun x => p199 N x.1
theorem zj5 (l : List Pr) (hlen : l.length * 16 <= 140737488355328) {w : World} {v : Value} {ok : Nat -> Prop} (hv : Holds w ok (.ro .pair l) v) :
    Calls Try.prog 199 #[v] w fun e w' => ∃ v', e = .returned v' /\ OwnV pd.els w' (fun b => w.heap.size <= b) (.u (.c (.ro .pair l))) v' /\ Kept w w' := by
  obtain ⟨i, z, h1, h2, h3, h4, h5, h6, _⟩ := (za3.ti 158 ⟨.arr 2 3, 2, 16, [.int 0, .int 0]⟩ (by kernel_rfl)).info
  have hzs : z.cells.size = 2 := by
    have := zal (X := ⟨Try.prog, pd, w, fun _ => False, fun _ => (0, 0, 0, 0)⟩) (ρ := fun _ => ⟨0, undef, 0, 0⟩) (zbY h5)
    simpa using this.symm
  have hel : elTy .pair pd.els = some 158 := by kernel_rfl
  have hsz : ∀ w, (Go.sizeOf (zla.t 23)).run Try.prog w = .ok 2 w := fun w => by
    simp [Go.sizeOf, typeInfo, show zla.t 23 = 158 from rfl, h1, h2]
  cases hv with
  | sc h => cases h
  | ro f g1 g2 g3 g4 g5 =>
    rename_i b off cap
    have hfl : (flat .pair l).length = l.length * 2 := zab .pair l
    have hnews : ∀ (j : Nat) (u : Value), ((List.range (l.length * 2)).map f)[j]? = some u -> j < l.length * 2 /\ u = f j := fun j u hu => by
      simp only [List.getElem?_map, Option.map_eq_some_iff] at hu
      obtain ⟨a, ha, rfl⟩ := hu
      obtain ⟨hlt, e⟩ := List.getElem?_eq_some_iff.1 ha
      simp only [List.length_range] at hlt
      simp only [List.getElem_range] at e
      exact ⟨hlt, by rw [e]⟩
    have hV : Vals (flat .pair l) ((List.range (l.length * 2)).map f) := znz _ _ (by simp [hfl]) fun j c u hc hu => by
      obtain ⟨hlt, rfl⟩ := hnews j u hu
      obtain ⟨x, hx⟩ := zdf .pair l c (List.mem_of_getElem? hc)
      rw [ziV hx (g5 j c hc)]
      exact hx
    have hcell : ∀ (j : Nat) (u : Value), ((List.range (l.length * 2)).map f)[j]? = some u -> w.cell? ⟨b, off + j, none⟩ = some u := fun j u hu => by
      obtain ⟨hlt, rfl⟩ := hnews j u hu
      exact g4 j _ (List.getElem?_eq_getElem (by rw [hfl]; exact hlt))
    refine (AnyE.slices_Clone zf5 i z 2 16 h1 h4 h2 h3 hzs (by decide) hsz b off l.length cap ((List.range (l.length * 2)).map f) w (by simp) (Nat.le_trans g1 g2) hlen hcell (zk9 hV)).mono fun e w' ⟨v', he, ho, _, hb⟩ => ?_
    exact ⟨v', he, zgY hel ho hV, ziW hb⟩
  | emp =>
    rename_i a cap
    cases a with
    | none =>
      refine (AnyE.slices_Clone_nil zf5 0 cap w).mono fun e w' ⟨he, hw⟩ => ?_
      subst hw
      exact ⟨_, he, ⟨[], [.slice none 0 0], .c .nil, .nilr .nil⟩, ⟨rfl, rfl, rfl, Nat.le_refl _, fun _ _ => rfl⟩⟩
    | some ad =>
      refine (zj4 zf5 i z 2 16 h1 h4 h2 h3 hzs (by decide) hsz ad cap w).mono fun e w' ⟨v', he, ho, hb⟩ => ?_
      exact ⟨v', he, zgY (e := .pair) (l := []) hel ho trivial, ziW hb⟩
set_option maxRecDepth 100000 in
theorem znA (N : Nat) : SgOK Try.prog pd.els 199 (g199 N) := by
  refine SgOK.plain (n := 199) (by simp only [g199, sgK]) (zpH Try.func199 (zau zgZ) (by kernel_rfl) ?_) rfl rfl
  intro us r hr w vs ok hok hh
  simp only [g199, sgK] at hr
  split at hr
  . rename_i x hx
    have hus := zbx hx
    obtain ⟨l, u⟩ := x
    subst hus
    simp only [p199] at hr
    obtain ⟨hlen, hr⟩ := zak hr
    cases hr
    match vs, hh with
    | [v], ⟨hv, _⟩ => exact zj5 l (by simpa [leN] using hlen) hv
  . cases hr
def zpI : Go.Shelf.Ren := ⟨fun n => cond (Nat.beq n 4) 219 n, fun n => cond (Nat.beq n 22) 77 (cond (Nat.beq n 25) 116 n), fun n => n⟩
theorem ziX : (Try.f219.name == "runtime.NumGoroutine") = false := by kernel_rfl
theorem znB : { Body8.n4 zpI with name := Try.f219.name } = Try.f219 := by kernel_rfl
theorem zlb : Lays8.n4 Try.prog zpI where
  mixed := by kernel_rfl
  f4 := ⟨Try.f219.name, ziX, by rw [znB]; exact Try.func219⟩
  t0 := Try.underlying0
  a0 := Try.isAgg0
  z0 := Try.sizeOf0
  v0 := Try.zeroValue0
  t3 := Try.underlying3
  a3 := Try.isAgg3
  z3 := Try.sizeOf3
  v3 := Try.zeroValue3
  t4 := Try.underlying4
  a4 := Try.isAgg4
  z4 := Try.sizeOf4
  v4 := Try.zeroValue4
  t9 := Try.underlying9
  a9 := Try.isAgg9
  z9 := Try.sizeOf9
  v9 := Try.zeroValue9
  t20 := Try.underlying20
  a20 := Try.isAgg20
  z20 := Try.sizeOf20
  v20 := Try.zeroValue20
  t22 := Try.underlying77
  a22 := Try.isAgg77
  z22 := Try.sizeOf77
  v22 := Try.zeroValue77
def zff (N : Nat) (n : Int) : Option (List Row × Unit) := must (leI 0 n && leN (n.toNat * 280) 140737488355328) (some ([], ()))
def zhO (N : Nat) : Sg := sgK [K.int] [(K.ro .row)] fun x => zff N x.1
theorem le63 {m : Nat} (h : (m + 1) * 280 <= 140737488355328) : 0 + (m + 1) <= 4611686018427387904 := by omega
theorem zl1 (n : Nat) (hlen : n * 280 <= 140737488355328) (w : World) :
    Calls Try.prog 219 #[.slice none 0 0, .int .i64 n] w fun e w' => ∃ v', e = .returned v' /\ OwnV pd.els w' (fun b => w.heap.size <= b) (.u (.c (.ro .row []))) v' /\ Kept w w' := by
  cases n with
  | zero =>
    refine (Any8.slices_Grow_room zlb none 0 0 0 w (Nat.le_refl _) (by omega) (by omega) (by omega)).mono fun e w' ⟨he, hw⟩ => ?_
    subst hw
    exact ⟨_, he, ⟨[], [.slice none 0 0], .c .nil, .nilr .nil⟩, ⟨rfl, rfl, rfl, Nat.le_refl _, fun _ _ => rfl⟩⟩
  | succ m =>
    obtain ⟨ti, h0⟩ : ∃ ti, pd.ti 116 = some ti := Option.isSome_iff_exists.1 (by kernel_rfl)
    obtain ⟨i, z, h1, h2, h3, h4, h5, h6, _⟩ := (za3.ti 116 ti h0).info
    have hs : ti.size = 35 /\ ti.bytes = 280 /\ ti.zero.length = 35 := by
      have hb : (match pd.ti 116 with | some ti => Nat.beq ti.size 35 && (Nat.beq ti.bytes 280 && Nat.beq ti.zero.length 35) | none => false) = true := by kernel_rfl
      rw [h0] at hb
      simp only [Bool.and_eq_true] at hb
      exact ⟨Nat.beq_true hb.1, Nat.beq_true hb.2.1, Nat.beq_true hb.2.2⟩
    have hzs : z.cells.size = 35 := by
      have := zal (X := ⟨Try.prog, pd, w, fun _ => False, fun _ => (0, 0, 0, 0)⟩) (ρ := fun _ => ⟨0, undef, 0, 0⟩) (zbY h5)
      rw [← hs.2.2, this]; simp
    have hel : elTy .row pd.els = some 116 := by kernel_rfl
    rw [hs.1] at h2
    rw [hs.2.1] at h3
    refine (Any8.slices_Grow_grow zlb i z h1 h4 (by rw [h2]; decide) none 0 0 (m + 1) [] w (Nat.le_refl _) (by omega) (by rw [h3]; simpa using hlen) (le63 hlen) (by simp) (fun _ => rfl) (fun a ha => by cases ha)).mono fun e w' ⟨he, hw⟩ => ?_
    subst hw
    refine ⟨_, he, ?_, ?_⟩
    . have hge := grownCap_ge w (0 + (m + 1)) 0 (zpI.t 25)
      have hle := grownCap_le_maxLen w (0 + (m + 1)) 0 (zpI.t 25) (by simp only [maxLen]; omega)
      refine ⟨[w.heap.size], [_], .c .nil, .row (xs := _) (ty := 116) hel (heap_alloc_new w.drew _) (show w.heap.size <= w.heap.size from Nat.le_refl w.heap.size) (fun h => by cases h) (Nat.zero_le _) hle ?_ trivial .nil⟩
      simp only [List.size_toArray, List.length_nil, Array.size_append, zbP, hzs, El.size]
      omega
    . refine ⟨rfl, rfl, rfl, ?_, fun k hk => ?_⟩
      . simp
      . exact heap_alloc_old w.drew _ hk
where
  zbP (zs : Array Value) (n : Nat) : (Builtin.zeroCells zs n).size = n * zs.size := by
    simp [Builtin.zeroCells]
set_option maxRecDepth 100000 in
theorem zj6 (N : Nat) : SgOK Try.prog pd.els 3000219 (zhO N) := by
  refine SgOK.nilA (n := 219) (zs7 Try.func219 (zau ziX) (by kernel_rfl) ?_) rfl rfl
  intro us r hr w vs ok hok hh
  simp only [zhO, sgK] at hr
  split at hr
  . rename_i x hx
    have hus := zbx hx
    obtain ⟨n, u⟩ := x
    subst hus
    simp only [zff] at hr
    obtain ⟨hc, hr⟩ := zak hr
    cases hr
    simp only [Bool.and_eq_true, leI, leN, decide_eq_true_eq] at hc
    obtain ⟨k, rfl⟩ := Int.eq_ofNat_of_zero_le hc.1
    match vs, hh with
    | [v], ⟨hv, _⟩ =>
      have hv : v = .int .i64 k := ziV (c := .int (k : Int)) rfl hv
      subst hv
      exact zl1 k (by simpa using hc.2) w
  . cases hr
def q199 (N : Nat) (l : List Pr) : Option (List Pr × Unit) := must (leN (l.length * 16) 140737488355328) (some (l, ()))
theorem zs8 : p199 = q199 := rfl
def zfg (N : Nat) (n : Int) : Option (List Row × Unit) := must (leI 0 n && leN (n.toNat * 280) 140737488355328) (some ([], ()))
theorem zl2 : zff = zfg := rfl
end
section
def zs9 (N : Nat) (A_2 : (List UInt64) -> Int -> Option (List UInt64 × Unit)) (a0 : List UInt64) (n3 : Int) : Option (List UInt64 × Unit) :=
  cond (hide (ltI (0 : Int) n3)) (must (leI (0 : Int) (hide (wr (n3 - (1 : Int)))) && ltI (hide (wr (n3 - (1 : Int)))) (↑a0.length : Int)) (cond (hide (List.getD a0 (Int.toNat (hide (wr (n3 - (1 : Int))))) (0 : UInt64) == (0 : UInt64))) (A_2 a0 (hide (wr (n3 - (1 : Int))))) (must (leI (0 : Int) n3 && leI n3 (↑a0.length : Int)) (must (leN (((0 : Nat) + List.length (List.take (Int.toNat (n3 - (0 : Int))) a0)) * (8 : Nat)) (140737488355328 : Nat)) (some ((List.take (Int.toNat (n3 - (0 : Int))) a0, ()))))))) (must (leI (0 : Int) n3 && leI n3 (↑a0.length : Int)) (must (leN (((0 : Nat) + List.length (List.take (Int.toNat (n3 - (0 : Int))) a0)) * (8 : Nat)) (140737488355328 : Nat)) (some ((List.take (Int.toNat (n3 - (0 : Int))) a0, ())))))
def zta (N n : Nat) (a0 : List UInt64) (n3 : Int) : Option (List UInt64 × Unit) :=
  zas (fun A x => zs9 N (fun a0 n3 => A ((a0, (n3, ())), ())) x.1.1 x.1.2.1) n ((a0, (n3, ())), ())
def p158 (N : Nat) (a0 : List UInt64) : Option (List UInt64 × Unit) :=
  zta N N a0 ((↑a0.length : Int))
def p160 (N : Nat) (a0 : List UInt64) (i1 : Int) : Option (UInt64 × Unit) :=
  cond (hide (ltI i1 (↑a0.length : Int))) (must (leI (0 : Int) i1 && ltI i1 (↑a0.length : Int)) (some ((List.getD a0 i1.toNat (0 : UInt64), ())))) (some (((0 : UInt64), ())))
def g160 (N : Nat) : Sg := sgK [(K.ro .u64), K.int] [K.u64] fun x => p160 N x.1 x.2.1
def ztb : List (Nat × Head) := [
    ]
def ztc (N : Nat) : List (Nat × Sg) := []
theorem znC (N : Nat) : za2 Try.prog pd.els (ztc N) := trivial
theorem zrV (N : Nat) : SgOK Try.prog pd.els 160 (g160 N) :=
  zaP za3 (zar (znC N)) Try.func160 (zau (by kernel_rfl)) [(K.ro .u64), K.int] [K.u64] _ N ztb 4 fun x => by kernel_rfl
def zhP (N : Nat) (A_1000 : (List UInt64) -> (List UInt64) -> Int -> Option (Int × Unit)) (a0 b1 : List UInt64) (i5 : Int) : Option (Int × Unit) :=
  cond (hide (ltI (hide (wr (i5 - (1 : Int)))) (0 : Int))) (some (((0 : Int), ()))) (Option.bind (p160 N a0 (hide (wr (i5 - (1 : Int))))) fun r0 => Option.bind (p160 N b1 (hide (wr (i5 - (1 : Int))))) fun r1 => cond (hide (ltN r0.1.toNat r1.1.toNat)) (some (((-1 : Int), ()))) (cond (hide (ltN r1.1.toNat r0.1.toNat)) (some (((1 : Int), ()))) (A_1000 a0 b1 (hide (wr (i5 - (1 : Int)))))))
def zhQ (N n : Nat) (a0 b1 : List UInt64) (i5 : Int) : Option (Int × Unit) :=
  zas (fun A x => zhP N (fun a0 b1 i5 => A ((a0, (b1, (i5, ()))), ())) x.1.1 x.1.2.1 x.1.2.2.1) n ((a0, (b1, (i5, ()))), ())
def p61 (N : Nat) (a0 b1 : List UInt64) : Option (Int × Unit) :=
  zhQ N N a0 b1 (mxI (↑a0.length : Int) (↑b1.length : Int))
def g61 (N : Nat) : Sg := sgK [(K.ro .u64), (K.ro .u64)] [K.int] fun x => p61 N x.1 x.2.1
def zwf : List (Nat × Head) := [
    (1000, ⟨⟨31, [(0, .u (.c (.ro .u64))), (1, .u (.c (.ro .u64))), (5, .u (.c (.int)))], []⟩, .fall⟩)]
def zwg (N : Nat) : List (Nat × Sg) := [(160, g160 N)]
theorem zpJ (N : Nat) : za2 Try.prog pd.els (zwg N) := ⟨zrV N, trivial⟩
theorem ztd (N : Nat) : SgOK Try.prog pd.els 61 (g61 N) :=
  zaP za3 (zar (zpJ N)) Try.func61 (zau (by kernel_rfl)) [(K.ro .u64), (K.ro .u64)] [K.int] _ N zwf 4 fun x => by kernel_rfl
def zwh (N : Nat) (A_5 : (List UInt64) -> (List UInt64) -> Int -> UInt64 -> Int -> Int -> (List UInt64) -> Option (List UInt64 × Unit)) (a0 b1 : List UInt64) (n5 : Int) (carry7 : UInt64) (t17 t18 : Int) (out6o : List UInt64) : Option (List UInt64 × Unit) :=
  cond (hide (ltI t18 t17)) (Option.bind (p160 N a0 t18) fun r1 => Option.bind (p160 N b1 t18) fun r2 => Option.bind (kAdd r1.1 r2.1 carry7) fun r3 => must (leI (0 : Int) t18 && ltI t18 (↑out6o.length : Int)) (A_5 a0 b1 n5 r3.2 t17 (hide (wr (t18 + (1 : Int)))) (setL out6o t18.toNat r3.1))) (must (leI (0 : Int) n5 && ltI n5 (↑out6o.length : Int)) (Option.bind (p158 N (setL out6o n5.toNat carry7)) fun r0 => some ((Prod.fst r0, ()))))
def zwi (N n : Nat) (a0 b1 : List UInt64) (n5 : Int) (carry7 : UInt64) (t17 t18 : Int) (out6o : List UInt64) : Option (List UInt64 × Unit) :=
  zas (fun A x => zwh N (fun a0 b1 n5 carry7 t17 t18 out6o => A ((a0, (b1, (n5, ((), (carry7, (t17, (t18, ()))))))), (out6o, ()))) x.1.1 x.1.2.1 x.1.2.2.1 x.1.2.2.2.2.1 x.1.2.2.2.2.2.1 x.1.2.2.2.2.2.2.1 x.2.1) n ((a0, (b1, (n5, ((), (carry7, (t17, (t18, ()))))))), (out6o, ()))
def p62 (N : Nat) (a0 b1 : List UInt64) : Option (List UInt64 × Unit) :=
  must (leI (0 : Int) (hide (wr (mxI (↑a0.length : Int) (↑b1.length : Int) + (1 : Int)))) && (eqI (hide (wr (mxI (↑a0.length : Int) (↑b1.length : Int) + (1 : Int)))) (hide (wr (mxI (↑a0.length : Int) (↑b1.length : Int) + (1 : Int)))) && leN (Int.toNat (hide (wr (mxI (↑a0.length : Int) (↑b1.length : Int) + (1 : Int)))) * (8 : Nat)) (140737488355328 : Nat))) (zwi N N a0 b1 (mxI (↑a0.length : Int) (↑b1.length : Int)) (0 : UInt64) (mxI (↑a0.length : Int) (↑b1.length : Int)) (0 : Int) (List.replicate (Int.toNat (hide (wr (mxI (↑a0.length : Int) (↑b1.length : Int) + (1 : Int))))) (0 : UInt64)))
def p163 (N : Nat) (x0 y1 : UInt64) : Option (UInt64 × UInt64 × Unit) :=
  some ((hide (hide (hide (hide (za7 x0 (UInt64.toNat (32 : UInt64))) * hide (za7 y1 (UInt64.toNat (32 : UInt64)))) + hide (za7 (hide (hide (hide (za7 x0 (UInt64.toNat (32 : UInt64))) * hide (y1 &&& (4294967295 : UInt64))) + hide (za7 (hide (hide (x0 &&& (4294967295 : UInt64)) * hide (y1 &&& (4294967295 : UInt64)))) (UInt64.toNat (32 : UInt64))))) (UInt64.toNat (32 : UInt64)))) + hide (za7 (hide (hide (hide (hide (hide (za7 x0 (UInt64.toNat (32 : UInt64))) * hide (y1 &&& (4294967295 : UInt64))) + hide (za7 (hide (hide (x0 &&& (4294967295 : UInt64)) * hide (y1 &&& (4294967295 : UInt64)))) (UInt64.toNat (32 : UInt64)))) &&& (4294967295 : UInt64)) + hide (hide (x0 &&& (4294967295 : UInt64)) * hide (za7 y1 (UInt64.toNat (32 : UInt64)))))) (UInt64.toNat (32 : UInt64)))), hide (x0 * y1), ()))
def zwj (N : Nat) (A_3 : (List UInt64) -> (List UInt64) -> Int -> Int -> (List UInt64) -> Option (List UInt64 × Unit)) (A_7 : (List UInt64) -> Int -> UInt64 -> UInt64 -> (List UInt64) -> Int -> Int -> (List UInt64) -> Int -> Int -> (List UInt64) -> Option (List UInt64 × Unit)) (b1 : List UInt64) (i6 : Int) (x7 over8 : UInt64) (t21 : List UInt64) (t22 t23 : Int) (t28 : List UInt64) (t29 t30 : Int) (out5o : List UInt64) : Option (List UInt64 × Unit) :=
  let u1 := hide (wr (i6 + t30))
  let u2 := hide (wr (i6 + (↑b1.length : Int)))
  let u3 := leI (0 : Int) u1 && ltI u1 (↑out5o.length : Int)
  cond (hide (ltI t30 t29)) (must (leI (0 : Int) t30 && ltI t30 (↑t28.length : Int)) (Option.bind (p163 N x7 (List.getD t28 t30.toNat (0 : UInt64))) fun r0 => must u3 (Option.bind (kAdd (r0.2.1) (List.getD out5o (Int.toNat u1) (0 : UInt64)) (0 : UInt64)) fun r1 => Option.bind (kAdd r1.1 over8 (0 : UInt64)) fun r2 => must u3 (A_7 b1 i6 x7 (hide (hide (Prod.fst r0 + Prod.snd r1) + Prod.snd r2)) t21 t22 t23 t28 t29 (hide (wr (t30 + (1 : Int)))) (setL out5o (Int.toNat u1) r2.1))))) (must (leI (0 : Int) u2 && ltI u2 (↑out5o.length : Int)) (A_3 b1 t21 t22 (hide (wr (t23 + (1 : Int)))) (setL out5o (Int.toNat u2) over8)))
def zwk (N : Nat) (A_3 : (List UInt64) -> (List UInt64) -> Int -> Int -> (List UInt64) -> Option (List UInt64 × Unit)) (n : Nat) (b1 : List UInt64) (i6 : Int) (x7 over8 : UInt64) (t21 : List UInt64) (t22 t23 : Int) (t28 : List UInt64) (t29 t30 : Int) (out5o : List UInt64) : Option (List UInt64 × Unit) :=
  zas (fun A x => zwj N A_3 (fun b1 i6 x7 over8 t21 t22 t23 t28 t29 t30 out5o => A ((b1, ((), (i6, (x7, (over8, (t21, (t22, (t23, (t28, (t29, (t30, ()))))))))))), (out5o, ()))) x.1.1 x.1.2.2.1 x.1.2.2.2.1 x.1.2.2.2.2.1 x.1.2.2.2.2.2.1 x.1.2.2.2.2.2.2.1 x.1.2.2.2.2.2.2.2.1 x.1.2.2.2.2.2.2.2.2.1 x.1.2.2.2.2.2.2.2.2.2.1 x.1.2.2.2.2.2.2.2.2.2.2.1 x.2.1) n ((b1, ((), (i6, (x7, (over8, (t21, (t22, (t23, (t28, (t29, (t30, ()))))))))))), (out5o, ()))
def zwl (N : Nat) (A_3 : (List UInt64) -> (List UInt64) -> Int -> Int -> (List UInt64) -> Option (List UInt64 × Unit)) (b1 t21 : List UInt64) (t22 t23 : Int) (out5o : List UInt64) : Option (List UInt64 × Unit) :=
  cond (hide (ltI t23 t22)) (must (leI (0 : Int) t23 && ltI t23 (↑t21.length : Int)) (zwk N A_3 N b1 t23 (List.getD t21 t23.toNat (0 : UInt64)) (0 : UInt64) t21 t22 t23 b1 ((↑b1.length : Int)) (0 : Int) out5o)) (Option.bind (p158 N out5o) fun r0 => some ((Prod.fst r0, ())))
def zwm (N n : Nat) (b1 t21 : List UInt64) (t22 t23 : Int) (out5o : List UInt64) : Option (List UInt64 × Unit) :=
  zas (fun A x => zwl N (fun b1 t21 t22 t23 out5o => A ((b1, ((), (t21, (t22, (t23, ()))))), (out5o, ()))) x.1.1 x.1.2.2.1 x.1.2.2.2.1 x.1.2.2.2.2.1 x.2.1) n ((b1, ((), (t21, (t22, (t23, ()))))), (out5o, ()))
def p55 (N : Nat) (a0 b1 : List UInt64) : Option (List UInt64 × Unit) :=
  must (leI (0 : Int) (hide (wr ((↑a0.length : Int) + (↑b1.length : Int)))) && (eqI (hide (wr ((↑a0.length : Int) + (↑b1.length : Int)))) (hide (wr ((↑a0.length : Int) + (↑b1.length : Int)))) && leN (Int.toNat (hide (wr ((↑a0.length : Int) + (↑b1.length : Int)))) * (8 : Nat)) (140737488355328 : Nat))) (zwm N N b1 a0 ((↑a0.length : Int)) (0 : Int) (List.replicate (Int.toNat (hide (wr ((↑a0.length : Int) + (↑b1.length : Int))))) (0 : UInt64)))
def zte (N : Nat) (A_1000 : (List UInt64) -> Int -> (List UInt64) -> (List UInt64) -> Option (List UInt64 × Int × Unit)) (A_18 : (List UInt64) -> Int -> UInt64 -> Int -> Int -> (List UInt64) -> (List UInt64) -> Option (List UInt64 × Int × Unit)) (a0 : List UInt64) (i7 : Int) (borrow10 : UInt64) (t66 t67 : Int) (m1o r6o : List UInt64) : Option (List UInt64 × Int × Unit) :=
  cond (hide (ltI t67 t66)) (must (leI (0 : Int) t67 && ltI t67 (↑r6o.length : Int)) (Option.bind (p160 N m1o t67) fun r0 => Option.bind (kSub (List.getD r6o t67.toNat (0 : UInt64)) r0.1 borrow10) fun r1 => must (leI (0 : Int) t67 && ltI t67 (↑r6o.length : Int)) (A_18 a0 i7 r1.2 t66 (hide (wr (t67 + (1 : Int)))) m1o (setL r6o t67.toNat r1.1)))) (A_1000 a0 i7 m1o r6o)
def ztf (N : Nat) (A_1000 : (List UInt64) -> Int -> (List UInt64) -> (List UInt64) -> Option (List UInt64 × Int × Unit)) (n : Nat) (a0 : List UInt64) (i7 : Int) (borrow10 : UInt64) (t66 t67 : Int) (m1o r6o : List UInt64) : Option (List UInt64 × Int × Unit) :=
  zas (fun A x => zte N A_1000 (fun a0 i7 borrow10 t66 t67 m1o r6o => A ((a0, ((), ((), (i7, (borrow10, (t66, (t67, ()))))))), (m1o, (r6o, ())))) x.1.1 x.1.2.2.2.1 x.1.2.2.2.2.1 x.1.2.2.2.2.2.1 x.1.2.2.2.2.2.2.1 x.2.1 x.2.2.1) n ((a0, ((), ((), (i7, (borrow10, (t66, (t67, ()))))))), (m1o, (r6o, ())))
def ztg (N : Nat) (A_1000 : (List UInt64) -> Int -> (List UInt64) -> (List UInt64) -> Option (List UInt64 × Int × Unit)) (A_11 : (List UInt64) -> Int -> UInt64 -> Int -> Int -> (List UInt64) -> (List UInt64) -> Option (List UInt64 × Int × Unit)) (a0 : List UInt64) (i7 : Int) (carry8 : UInt64) (t41 t42 : Int) (m1o r6o : List UInt64) : Option (List UInt64 × Int × Unit) :=
  let u1 := leI (0 : Int) t42 && ltI t42 (↑r6o.length : Int)
  let u2 := List.getD r6o t42.toNat (0 : UInt64)
  cond (hide (ltI t42 t41)) (must u1 (must u1 (must u1 (A_11 a0 i7 (hide (za7 u2 (UInt64.toNat (63 : UInt64)))) t41 (hide (wr (t42 + (1 : Int)))) m1o (setL r6o t42.toNat (hide (hide (zjd u2 (UInt64.toNat (1 : UInt64))) ||| carry8))))))) (Option.bind (p61 N r6o m1o) fun r0 => cond (hide (leI (0 : Int) r0.1)) (ztf N A_1000 N a0 i7 (0 : UInt64) ((↑r6o.length : Int)) (0 : Int) m1o r6o) (A_1000 a0 i7 m1o r6o))
def zth (N : Nat) (A_1000 : (List UInt64) -> Int -> (List UInt64) -> (List UInt64) -> Option (List UInt64 × Int × Unit)) (n : Nat) (a0 : List UInt64) (i7 : Int) (carry8 : UInt64) (t41 t42 : Int) (m1o r6o : List UInt64) : Option (List UInt64 × Int × Unit) :=
  zas (fun A x => ztg N A_1000 (fun a0 i7 carry8 t41 t42 m1o r6o => A ((a0, ((), ((), (i7, (carry8, (t41, (t42, ()))))))), (m1o, (r6o, ())))) x.1.1 x.1.2.2.2.1 x.1.2.2.2.2.1 x.1.2.2.2.2.2.1 x.1.2.2.2.2.2.2.1 x.2.1 x.2.2.1) n ((a0, ((), ((), (i7, (carry8, (t41, (t42, ()))))))), (m1o, (r6o, ())))
def zpK (N : Nat) (A_1000 : (List UInt64) -> Int -> (List UInt64) -> (List UInt64) -> Option (List UInt64 × Int × Unit)) (a0 : List UInt64) (i7 : Int) (m1o r6o : List UInt64) : Option (List UInt64 × Int × Unit) :=
  cond (hide (ltI (hide (wr (i7 - (1 : Int)))) (0 : Int))) (Option.bind (p158 N r6o) fun r0 => some ((Prod.fst r0, (0 : Int), ()))) (must (leI (0 : Int) (hide (wr (Int.tdiv (hide (wr (i7 - (1 : Int)))) (64 : Int)))) && ltI (hide (wr (Int.tdiv (hide (wr (i7 - (1 : Int)))) (64 : Int)))) (↑a0.length : Int)) (zth N A_1000 N a0 (hide (wr (i7 - (1 : Int)))) (hide (hide (za7 (List.getD a0 (Int.toNat (hide (wr (Int.tdiv (hide (wr (i7 - (1 : Int)))) (64 : Int))))) (0 : UInt64)) (UInt64.toNat (hide (u64I (hide (Int.tmod (hide (wr (i7 - (1 : Int)))) (64 : Int))))))) &&& (1 : UInt64))) ((↑r6o.length : Int)) (0 : Int) m1o r6o))
def zpL (N n : Nat) (a0 : List UInt64) (i7 : Int) (m1o r6o : List UInt64) : Option (List UInt64 × Int × Unit) :=
  zas (fun A x => zpK N (fun a0 i7 m1o r6o => A ((a0, ((), ((), (i7, ())))), (m1o, (r6o, ())))) x.1.1 x.1.2.2.2.1 x.2.1 x.2.2.1) n ((a0, ((), ((), (i7, ())))), (m1o, (r6o, ())))
def p52 (N : Nat) (a0 m1 : List UInt64) : Option (List UInt64 × Int × Unit) :=
  Option.bind (p158 N m1) fun r0 => cond (hide (eqI (↑r0.1.length : Int) (0 : Int))) (some (([], (7 : Int), ()))) (must (leI (0 : Int) (hide (wr ((↑r0.1.length : Int) + (1 : Int)))) && (eqI (hide (wr ((↑r0.1.length : Int) + (1 : Int)))) (hide (wr ((↑r0.1.length : Int) + (1 : Int)))) && leN (Int.toNat (hide (wr ((↑r0.1.length : Int) + (1 : Int)))) * (8 : Nat)) (140737488355328 : Nat))) (zpL N N a0 (hide (wr ((64 : Int) * (↑a0.length : Int)))) r0.1 (List.replicate (Int.toNat (hide (wr ((↑r0.1.length : Int) + (1 : Int))))) (0 : UInt64))))
def zwn (N : Nat) (A_6 : Int -> Int -> Int -> (List UInt8) -> (List UInt64) -> Option (List UInt8 × Int × Unit)) (A_9 : Int -> Int -> UInt64 -> Int -> Int -> Int -> (List UInt8) -> (List UInt64) -> Option (List UInt8 × Int × Unit)) (n1 i7 : Int) (x8 : UInt64) (t23 t24 t29 : Int) (out6o : List UInt8) (t22o : List UInt64) : Option (List UInt8 × Int × Unit) :=
  let u2 := hide (wr (hide (wr (hide (wr (n1 - (1 : Int))) - hide (wr ((8 : Int) * i7)))) - t29))
  let u4 := hide (wr (t29 + (1 : Int)))
  let u3 := UInt8.ofNat (UInt64.toNat (hide (za7 x8 (UInt64.toNat (hide (u64I (hide (wr ((8 : Int) * t29)))))))))
  let u1 := cond (hide (leI (0 : Int) u2)) (must (leI (0 : Int) u2 && ltI u2 (↑out6o.length : Int)) (A_9 n1 i7 x8 t23 t24 u4 (setL out6o (Int.toNat u2) (hide u3)) t22o)) (A_9 n1 i7 x8 t23 t24 u4 out6o t22o)
  cond (hide (ltI t29 (8 : Int))) (cond (hide (ltI u2 (0 : Int))) (cond (hide !hide u3 == (0 : UInt8)) (some (([], (8 : Int), ()))) u1) u1) (A_6 n1 t23 (hide (wr (t24 + (1 : Int)))) out6o t22o)
def zwo (N : Nat) (A_6 : Int -> Int -> Int -> (List UInt8) -> (List UInt64) -> Option (List UInt8 × Int × Unit)) (n : Nat) (n1 i7 : Int) (x8 : UInt64) (t23 t24 t29 : Int) (out6o : List UInt8) (t22o : List UInt64) : Option (List UInt8 × Int × Unit) :=
  zas (fun A x => zwn N A_6 (fun n1 i7 x8 t23 t24 t29 out6o t22o => A ((n1, ((), (i7, (x8, ((), (t23, (t24, (t29, ())))))))), (out6o, (t22o, ())))) x.1.1 x.1.2.2.1 x.1.2.2.2.1 x.1.2.2.2.2.2.1 x.1.2.2.2.2.2.2.1 x.1.2.2.2.2.2.2.2.1 x.2.1 x.2.2.1) n ((n1, ((), (i7, (x8, ((), (t23, (t24, (t29, ())))))))), (out6o, (t22o, ())))
def zwp (N : Nat) (A_6 : Int -> Int -> Int -> (List UInt8) -> (List UInt64) -> Option (List UInt8 × Int × Unit)) (n1 t23 t24 : Int) (out6o : List UInt8) (t22o : List UInt64) : Option (List UInt8 × Int × Unit) :=
  cond (hide (ltI t24 t23)) (must (leI (0 : Int) t24 && ltI t24 (↑t22o.length : Int)) (zwo N A_6 N n1 t24 (List.getD t22o t24.toNat (0 : UInt64)) t23 t24 (0 : Int) out6o t22o)) (some ((out6o, (0 : Int), ())))
def zwq (N n : Nat) (n1 t23 t24 : Int) (out6o : List UInt8) (t22o : List UInt64) : Option (List UInt8 × Int × Unit) :=
  zas (fun A x => zwp N (fun n1 t23 t24 out6o t22o => A ((n1, ((), ((), (t23, (t24, ()))))), (out6o, (t22o, ())))) x.1.1 x.1.2.2.2.1 x.1.2.2.2.2.1 x.2.1 x.2.2.1) n ((n1, ((), ((), (t23, (t24, ()))))), (out6o, (t22o, ())))
def p57 (N : Nat) (a0 : List UInt64) (n1 : Int) : Option (List UInt8 × Int × Unit) :=
  Option.bind (p158 N a0) fun r0 => cond (hide (ltI n1 (0 : Int))) (some (([], (8 : Int), ()))) (cond (hide (ltI (192 : Int) n1)) (some (([], (8 : Int), ()))) (must (leI (0 : Int) n1 && (eqI n1 n1 && leN (Int.toNat n1 * (1 : Nat)) (140737488355328 : Nat))) (zwq N N n1 ((↑r0.1.length : Int)) (0 : Int) (List.replicate n1.toNat (0 : UInt8)) r0.1)))
def zwr (N : Nat) (A_3 : (List UInt8) -> (List UInt8) -> Int -> Int -> (List UInt64) -> Option (List UInt64 × Unit)) (b0 t12 : List UInt8) (t13 t14 : Int) (out3o : List UInt64) : Option (List UInt64 × Unit) :=
  let u2 := hide (wr (hide (wr ((↑b0.length : Int) - (1 : Int))) - t14))
  let u1 := hide (wr (Int.tdiv u2 (8 : Int)))
  let u3 := leI (0 : Int) u1 && ltI u1 (↑out3o.length : Int)
  cond (hide (ltI t14 t13)) (must (leI (0 : Int) t14 && ltI t14 (↑t12.length : Int)) (must u3 (must u3 (A_3 b0 t12 t13 (hide (wr (t14 + (1 : Int)))) (setL out3o (Int.toNat u1) (hide (List.getD out3o (Int.toNat u1) (0 : UInt64) ||| hide (zjd (hide (UInt64.ofNat (UInt8.toNat (List.getD t12 t14.toNat (0 : UInt8))))) (UInt64.toNat (hide (u64I (hide (wr ((8 : Int) * hide (Int.tmod u2 (8 : Int)))))))))))))))) (Option.bind (p158 N out3o) fun r0 => some ((Prod.fst r0, ())))
def zws (N n : Nat) (b0 t12 : List UInt8) (t13 t14 : Int) (out3o : List UInt64) : Option (List UInt64 × Unit) :=
  zas (fun A x => zwr N (fun b0 t12 t13 t14 out3o => A ((b0, ((), (t12, (t13, (t14, ()))))), (out3o, ()))) x.1.1 x.1.2.2.1 x.1.2.2.2.1 x.1.2.2.2.2.1 x.2.1) n ((b0, ((), (t12, (t13, (t14, ()))))), (out3o, ()))
def p59 (N : Nat) (b0 : List UInt8) : Option (List UInt64 × Unit) :=
  must (leI (0 : Int) (hide (wr (hide (wr (Int.tdiv (↑b0.length : Int) (8 : Int))) + (1 : Int)))) && (eqI (hide (wr (hide (wr (Int.tdiv (↑b0.length : Int) (8 : Int))) + (1 : Int)))) (hide (wr (hide (wr (Int.tdiv (↑b0.length : Int) (8 : Int))) + (1 : Int)))) && leN (Int.toNat (hide (wr (hide (wr (Int.tdiv (↑b0.length : Int) (8 : Int))) + (1 : Int)))) * (8 : Nat)) (140737488355328 : Nat))) (zws N N b0 b0 ((↑b0.length : Int)) (0 : Int) (List.replicate (Int.toNat (hide (wr (hide (wr (Int.tdiv (↑b0.length : Int) (8 : Int))) + (1 : Int))))) (0 : UInt64)))
def zti (N : Nat) (A_2 : (List UInt64) -> Int -> Option (List UInt64 × Unit)) (a0 : List UInt64) (n3 : Int) : Option (List UInt64 × Unit) :=
  cond (hide (ltI (0 : Int) n3)) (must (leI (0 : Int) (hide (wr (n3 - (1 : Int)))) && ltI (hide (wr (n3 - (1 : Int)))) (↑a0.length : Int)) (cond (hide (List.getD a0 (Int.toNat (hide (wr (n3 - (1 : Int))))) (0 : UInt64) == (0 : UInt64))) (A_2 a0 (hide (wr (n3 - (1 : Int))))) (must (leI (0 : Int) n3 && leI n3 (↑a0.length : Int)) (must (leN (((0 : Nat) + List.length (List.take (Int.toNat (n3 - (0 : Int))) a0)) * (8 : Nat)) (140737488355328 : Nat)) (some ((List.take (Int.toNat (n3 - (0 : Int))) a0, ()))))))) (must (leI (0 : Int) n3 && leI n3 (↑a0.length : Int)) (must (leN (((0 : Nat) + List.length (List.take (Int.toNat (n3 - (0 : Int))) a0)) * (8 : Nat)) (140737488355328 : Nat)) (some ((List.take (Int.toNat (n3 - (0 : Int))) a0, ())))))
def ztj (N n : Nat) (a0 : List UInt64) (n3 : Int) : Option (List UInt64 × Unit) :=
  zas (fun A x => zti N (fun a0 n3 => A ((a0, (n3, ())), ())) x.1.1 x.1.2.1) n ((a0, (n3, ())), ())
def p161 (N : Nat) (a0 : List UInt64) : Option (List UInt64 × Unit) :=
  ztj N N a0 ((↑a0.length : Int))
def p162 (N : Nat) (a0 : List UInt64) (i1 : Int) : Option (UInt64 × Unit) :=
  cond (hide (leI (↑a0.length : Int) (hide (wr (Int.tdiv i1 (64 : Int)))))) (some (((0 : UInt64), ()))) (must (leI (0 : Int) (hide (wr (Int.tdiv i1 (64 : Int)))) && ltI (hide (wr (Int.tdiv i1 (64 : Int)))) (↑a0.length : Int)) (must (leI (0 : Int) (hide (Int.tmod i1 (64 : Int)))) (must (ltI (hide (Int.tmod i1 (64 : Int))) (18446744073709551616 : Int)) (some ((hide (hide (za7 (List.getD a0 (Int.toNat (hide (wr (Int.tdiv i1 (64 : Int))))) (0 : UInt64)) (UInt64.toNat (UInt64.ofNat (Int.toNat (hide (Int.tmod i1 (64 : Int))))))) &&& (1 : UInt64)), ()))))))
def p165 (N : Nat) (a0 : List UInt64) (i1 : Int) : Option (UInt64 × Unit) :=
  cond (hide (ltI i1 (↑a0.length : Int))) (must (leI (0 : Int) i1 && ltI i1 (↑a0.length : Int)) (some ((List.getD a0 i1.toNat (0 : UInt64), ())))) (some (((0 : UInt64), ())))
def zwt (N : Nat) (A_7 : Int -> (List UInt64) -> (List UInt64) -> Option (Int × Unit)) (i5 : Int) (a0o b1o : List UInt64) : Option (Int × Unit) :=
  cond (hide (leI (0 : Int) i5)) (must (leI (0 : Int) i5 && ltI i5 (↑a0o.length : Int)) (must (leI (0 : Int) i5 && ltI i5 (↑b1o.length : Int)) (cond (hide (ltN (UInt64.toNat (List.getD a0o i5.toNat (0 : UInt64))) (UInt64.toNat (List.getD b1o i5.toNat (0 : UInt64))))) (some (((-1 : Int), ()))) (must (leI (0 : Int) i5 && ltI i5 (↑a0o.length : Int)) (must (leI (0 : Int) i5 && ltI i5 (↑b1o.length : Int)) (cond (hide (ltN (UInt64.toNat (List.getD b1o i5.toNat (0 : UInt64))) (UInt64.toNat (List.getD a0o i5.toNat (0 : UInt64))))) (some (((1 : Int), ()))) (A_7 (hide (wr (i5 - (1 : Int)))) a0o b1o))))))) (some (((0 : Int), ())))
def zwu (N n : Nat) (i5 : Int) (a0o b1o : List UInt64) : Option (Int × Unit) :=
  zas (fun A x => zwt N (fun i5 a0o b1o => A (((), ((), (i5, ()))), (a0o, (b1o, ())))) x.1.2.2.1 x.2.1 x.2.2.1) n (((), ((), (i5, ()))), (a0o, (b1o, ())))
def p65 (N : Nat) (a0 b1 : List UInt64) : Option (Int × Unit) :=
  Option.bind (p161 N a0) fun r0 => Option.bind (p161 N b1) fun r1 => cond (hide !eqI (↑r0.1.length : Int) (↑r1.1.length : Int)) (cond (hide (ltI (↑r0.1.length : Int) (↑r1.1.length : Int))) (some (((-1 : Int), ()))) (some (((1 : Int), ())))) (zwu N N (hide (wr ((↑r0.1.length : Int) - (1 : Int)))) r0.1 r1.1)
def zwv (N : Nat) (A_4 : (List UInt64) -> (List UInt64) -> UInt64 -> Int -> (List UInt64) -> Option (List UInt64 × Unit)) (a0 b1 : List UInt64) (c6 : UInt64) (i7 : Int) (out5o : List UInt64) : Option (List UInt64 × Unit) :=
  cond (hide (ltI i7 (mxI (↑a0.length : Int) (↑b1.length : Int)))) (Option.bind (p165 N a0 i7) fun r1 => Option.bind (p165 N b1 i7) fun r2 => Option.bind (kAdd r1.1 r2.1 c6) fun r3 => must (leN ((List.length out5o + List.length [Prod.fst r3]) * (8 : Nat)) (140737488355328 : Nat)) (A_4 a0 b1 r3.2 (hide (wr (i7 + (1 : Int)))) (out5o ++ [Prod.fst r3]))) (must (leN ((List.length out5o + List.length [c6]) * (8 : Nat)) (140737488355328 : Nat)) (Option.bind (p161 N (out5o ++ [c6])) fun r0 => some ((Prod.fst r0, ()))))
def zww (N n : Nat) (a0 b1 : List UInt64) (c6 : UInt64) (i7 : Int) (out5o : List UInt64) : Option (List UInt64 × Unit) :=
  zas (fun A x => zwv N (fun a0 b1 c6 i7 out5o => A ((a0, (b1, ((), (c6, (i7, ()))))), (out5o, ()))) x.1.1 x.1.2.1 x.1.2.2.2.1 x.1.2.2.2.2.1 x.2.1) n ((a0, (b1, ((), (c6, (i7, ()))))), (out5o, ()))
def p66 (N : Nat) (a0 b1 : List UInt64) : Option (List UInt64 × Unit) :=
  zww N N a0 b1 (0 : UInt64) (0 : Int) []
def zwx (N : Nat) (A_6 : (List UInt64) -> (List UInt64) -> UInt64 -> Int -> (List UInt64) -> Option (List UInt64 × Int × Unit)) (a0 b1 : List UInt64) (c7 : UInt64) (i8 : Int) (out6o : List UInt64) : Option (List UInt64 × Int × Unit) :=
  cond (hide (ltI i8 (mxI (↑a0.length : Int) (↑b1.length : Int)))) (Option.bind (p165 N a0 i8) fun r1 => Option.bind (p165 N b1 i8) fun r2 => Option.bind (kSub r1.1 r2.1 c7) fun r3 => must (leN ((List.length out6o + List.length [Prod.fst r3]) * (8 : Nat)) (140737488355328 : Nat)) (A_6 a0 b1 r3.2 (hide (wr (i8 + (1 : Int)))) (out6o ++ [Prod.fst r3]))) (Option.bind (p161 N out6o) fun r0 => some ((Prod.fst r0, (0 : Int), ())))
def zwy (N n : Nat) (a0 b1 : List UInt64) (c7 : UInt64) (i8 : Int) (out6o : List UInt64) : Option (List UInt64 × Int × Unit) :=
  zas (fun A x => zwx N (fun a0 b1 c7 i8 out6o => A ((a0, (b1, ((), (c7, (i8, ()))))), (out6o, ()))) x.1.1 x.1.2.1 x.1.2.2.2.1 x.1.2.2.2.2.1 x.2.1) n ((a0, (b1, ((), (c7, (i8, ()))))), (out6o, ()))
def p64 (N : Nat) (a0 b1 : List UInt64) : Option (List UInt64 × Int × Unit) :=
  Option.bind (p65 N a0 b1) fun r0 => cond (hide (ltI r0.1 (0 : Int))) (some (([], (1 : Int), ()))) (zwy N N a0 b1 (0 : UInt64) (0 : Int) [])
def zwz (N : Nat) (A_6 : (List UInt64) -> Int -> (List UInt64) -> (List UInt64) -> Option (List UInt64 × Int × Unit)) (a0 : List UInt64) (i7 : Int) (m1o r6o : List UInt64) : Option (List UInt64 × Int × Unit) :=
  let u1 := hide (wr (i7 - (1 : Int)))
  cond (hide (leI (0 : Int) i7)) (Option.bind (p66 N r6o r6o) fun r1 => Option.bind (p162 N a0 i7) fun r2 => cond (hide (Prod.fst r2 == (1 : UInt64))) (Option.bind (p66 N r1.1 ([(1 : UInt64)])) fun r5 => Option.bind (p65 N r5.1 m1o) fun r6 => cond (hide (leI (0 : Int) r6.1)) (Option.bind (p64 N r5.1 m1o) fun r7 => A_6 a0 u1 m1o r7.1) (A_6 a0 u1 m1o r5.1)) (Option.bind (p65 N r1.1 m1o) fun r3 => cond (hide (leI (0 : Int) r3.1)) (Option.bind (p64 N r1.1 m1o) fun r4 => A_6 a0 u1 m1o r4.1) (A_6 a0 u1 m1o r1.1))) (Option.bind (p161 N r6o) fun r0 => some ((Prod.fst r0, (0 : Int), ())))
def zwA (N n : Nat) (a0 : List UInt64) (i7 : Int) (m1o r6o : List UInt64) : Option (List UInt64 × Int × Unit) :=
  zas (fun A x => zwz N (fun a0 i7 m1o r6o => A ((a0, ((), ((), (i7, ())))), (m1o, (r6o, ())))) x.1.1 x.1.2.2.2.1 x.2.1 x.2.2.1) n ((a0, ((), ((), (i7, ())))), (m1o, (r6o, ())))
def p53 (N : Nat) (a0 m1 : List UInt64) : Option (List UInt64 × Int × Unit) :=
  Option.bind (p161 N m1) fun r0 => cond (hide (eqI (↑r0.1.length : Int) (0 : Int))) (some (([], (7 : Int), ()))) (zwA N N a0 (hide (wr (hide (wr ((64 : Int) * (↑a0.length : Int))) - (1 : Int)))) r0.1 [])
def ztk (N : Nat) (A_11 : Int -> Int -> (List UInt64) -> (List UInt8) -> Option (List UInt8 × Int × Unit)) (n1 i8 : Int) (a0o : List UInt64) (out7o : List UInt8) : Option (List UInt8 × Int × Unit) :=
  let u1 := hide (wr ((8 : Int) * hide (Int.tmod i8 (8 : Int))))
  let u2 := hide (wr (hide (wr (n1 - (1 : Int))) - i8))
  cond (hide (ltI i8 n1)) (Option.bind (p165 N a0o (hide (wr (Int.tdiv i8 (8 : Int))))) fun r0 => must (leI (0 : Int) u1) (must (ltI u1 (18446744073709551616 : Int)) (must (leI (0 : Int) u2 && ltI u2 (↑out7o.length : Int)) (A_11 n1 (hide (wr (i8 + (1 : Int)))) a0o (setL out7o (Int.toNat u2) (hide (UInt8.ofNat (UInt64.toNat (hide (za7 r0.1 (UInt64.toNat (UInt64.ofNat (Int.toNat u1))))))))))))) (some ((out7o, (0 : Int), ())))
def ztl (N n : Nat) (n1 i8 : Int) (a0o : List UInt64) (out7o : List UInt8) : Option (List UInt8 × Int × Unit) :=
  zas (fun A x => ztk N (fun n1 i8 a0o out7o => A (((), (n1, ((), (i8, ())))), (a0o, (out7o, ())))) x.1.2.1 x.1.2.2.2.1 x.2.1 x.2.2.1) n (((), (n1, ((), (i8, ())))), (a0o, (out7o, ())))
def zwB (N : Nat) (A_5 : Int -> Int -> (List UInt64) -> Option (List UInt8 × Int × Unit)) (n1 i6 : Int) (a0o : List UInt64) : Option (List UInt8 × Int × Unit) :=
  let u1 := hide (wr ((8 : Int) * hide (Int.tmod i6 (8 : Int))))
  let u2 := hide (wr (Int.tdiv i6 (8 : Int)))
  cond (hide (ltI i6 (hide (wr ((8 : Int) * (↑a0o.length : Int)))))) (must (leI (0 : Int) u2 && ltI u2 (↑a0o.length : Int)) (must (leI (0 : Int) u1) (must (ltI u1 (18446744073709551616 : Int)) (cond (hide !hide (UInt8.ofNat (UInt64.toNat (hide (za7 (List.getD a0o (Int.toNat u2) (0 : UInt64)) (UInt64.toNat (UInt64.ofNat (Int.toNat u1))))))) == (0 : UInt8)) (some (([], (8 : Int), ()))) (A_5 n1 (hide (wr (i6 + (1 : Int)))) a0o))))) (must (leI (0 : Int) n1 && (eqI n1 n1 && leN (Int.toNat n1 * (1 : Nat)) (140737488355328 : Nat))) (ztl N N n1 (0 : Int) a0o (List.replicate n1.toNat (0 : UInt8))))
def zwC (N n : Nat) (n1 i6 : Int) (a0o : List UInt64) : Option (List UInt8 × Int × Unit) :=
  zas (fun A x => zwB N (fun n1 i6 a0o => A (((), (n1, (i6, ()))), (a0o, ()))) x.1.2.1 x.1.2.2.1 x.2.1) n (((), (n1, (i6, ()))), (a0o, ()))
def p58 (N : Nat) (a0 : List UInt64) (n1 : Int) : Option (List UInt8 × Int × Unit) :=
  Option.bind (p161 N a0) fun r0 => cond (hide (ltI n1 (0 : Int))) (some (([], (8 : Int), ()))) (cond (hide (ltI (192 : Int) n1)) (some (([], (8 : Int), ()))) (zwC N N n1 n1 r0.1))
def zwD (N : Nat) (A_3 : (List UInt8) -> Int -> (List UInt64) -> Option (List UInt64 × Unit)) (b0 : List UInt8) (i4 : Int) (out3o : List UInt64) : Option (List UInt64 × Unit) :=
  let u1 := hide (wr (Int.tdiv i4 (8 : Int)))
  let u5 := (↑b0.length : Int)
  let u2 := hide (wr (hide (wr (u5 - (1 : Int))) - i4))
  let u3 := hide (wr ((8 : Int) * hide (Int.tmod i4 (8 : Int))))
  let u4 := leI (0 : Int) u1 && ltI u1 (↑out3o.length : Int)
  cond (hide (ltI i4 u5)) (must u4 (must (leI (0 : Int) u2 && ltI u2 u5) (must (leI (0 : Int) u3) (must (ltI u3 (18446744073709551616 : Int)) (must u4 (A_3 b0 (hide (wr (i4 + (1 : Int)))) (setL out3o (Int.toNat u1) (hide (List.getD out3o (Int.toNat u1) (0 : UInt64) + hide (zjd (hide (UInt64.ofNat (UInt8.toNat (List.getD b0 (Int.toNat u2) (0 : UInt8))))) (UInt64.toNat (UInt64.ofNat (Int.toNat u3))))))))))))) (Option.bind (p161 N out3o) fun r0 => some ((Prod.fst r0, ())))
def zwE (N n : Nat) (b0 : List UInt8) (i4 : Int) (out3o : List UInt64) : Option (List UInt64 × Unit) :=
  zas (fun A x => zwD N (fun b0 i4 out3o => A ((b0, ((), (i4, ()))), (out3o, ()))) x.1.1 x.1.2.2.1 x.2.1) n ((b0, ((), (i4, ()))), (out3o, ()))
def p60 (N : Nat) (b0 : List UInt8) : Option (List UInt64 × Unit) :=
  must (leI (0 : Int) (hide (wr (Int.tdiv (hide (wr ((↑b0.length : Int) + (7 : Int)))) (8 : Int)))) && (eqI (hide (wr (Int.tdiv (hide (wr ((↑b0.length : Int) + (7 : Int)))) (8 : Int)))) (hide (wr (Int.tdiv (hide (wr ((↑b0.length : Int) + (7 : Int)))) (8 : Int)))) && leN (Int.toNat (hide (wr (Int.tdiv (hide (wr ((↑b0.length : Int) + (7 : Int)))) (8 : Int)))) * (8 : Nat)) (140737488355328 : Nat))) (zwE N N b0 (0 : Int) (List.replicate (Int.toNat (hide (wr (Int.tdiv (hide (wr ((↑b0.length : Int) + (7 : Int)))) (8 : Int))))) (0 : UInt64)))
def zwF (N : Nat) (A_4 : (List UInt64) -> (List UInt64) -> Int -> Option (Bool × Unit)) (a0 b1 : List UInt64) (i5 : Int) : Option (Bool × Unit) :=
  cond (hide (ltI i5 (↑a0.length : Int))) (must (leI (0 : Int) i5 && ltI i5 (↑a0.length : Int)) (must (leI (0 : Int) i5 && ltI i5 (↑b1.length : Int)) (cond (hide !List.getD a0 i5.toNat (0 : UInt64) == List.getD b1 i5.toNat (0 : UInt64)) (some ((false, ()))) (A_4 a0 b1 (hide (wr (i5 + (1 : Int)))))))) (some ((true, ())))
def zwG (N n : Nat) (a0 b1 : List UInt64) (i5 : Int) : Option (Bool × Unit) :=
  zas (fun A x => zwF N (fun a0 b1 i5 => A ((a0, (b1, (i5, ()))), ())) x.1.1 x.1.2.1 x.1.2.2.1) n ((a0, (b1, (i5, ()))), ())
def p54 (N : Nat) (a0 b1 : List UInt64) : Option (Bool × Unit) :=
  cond (hide !eqI (↑a0.length : Int) (↑b1.length : Int)) (some ((false, ()))) (zwG N N a0 b1 (0 : Int))
def p51 (N : Nat) : Option (Bool × Unit) :=
  let u1 := some ((false, ()))
  Option.bind (p52 N ([(7 : UInt64)]) ([(4 : UInt64)])) fun r0 => Option.bind (p57 N ([(258 : UInt64)]) (2 : Int)) fun r1 => cond (hide (eqI (r0.2.1) (0 : Int))) (cond (hide (eqI (↑r0.1.length : Int) (1 : Int))) (must (ltI (0 : Int) (↑r0.1.length : Int)) (cond (hide (List.getD r0.1 (0 : Nat) (0 : UInt64) == (3 : UInt64))) (cond (hide (eqI (r1.2.1) (0 : Int))) (cond (hide (eqB r1.1 [(1 : UInt8), (2 : UInt8)])) (Option.bind (p62 N ([(1 : UInt64)]) []) fun r2 => cond (hide (eqI (↑r2.1.length : Int) (1 : Int))) (Option.bind (p55 N ([(9223372036854775808 : UInt64)]) ([(2 : UInt64)])) fun r3 => cond (hide (eqI (↑r3.1.length : Int) (2 : Int))) (Option.bind (p61 N ([(1 : UInt64)]) []) fun r4 => some ((hide (eqI r4.1 (1 : Int)), ()))) u1) u1) u1) u1) u1)) u1) u1
end
section
def p6 (N : Nat) (a0 m1 : List UInt64) : Option (Bool × Unit) :=
  Option.bind (p51 N) fun r0 => cond (hide !r0.1) (some ((false, ()))) (cond (hide (ltI (24 : Int) (↑a0.length : Int))) (some ((true, ()))) (cond (hide (ltI (12 : Int) (↑m1.length : Int))) (some ((true, ()))) (Option.bind (p52 N a0 m1) fun r1 => Option.bind (p53 N a0 m1) fun r2 => cond (hide (eqI (r1.2.1) (r2.2.1))) (Option.bind (p54 N r1.1 r2.1) fun r3 => some ((Prod.fst r3, ()))) (some ((false, ()))))))
def g6 (N : Nat) : Sg := sgK [(K.ro .u64), (K.ro .u64)] [K.bool] fun x => p6 N x.1 x.2.1
def p8 (N : Nat) (a0 : List UInt64) (n1 : Int) (b2 : List UInt8) : Option (Bool × Unit) :=
  Option.bind (p51 N) fun r0 => cond (hide !r0.1) (some ((false, ()))) (cond (hide (ltI (24 : Int) (↑a0.length : Int))) (some ((true, ()))) (cond (hide (ltI (192 : Int) (↑b2.length : Int))) (some ((true, ()))) (Option.bind (p57 N a0 n1) fun r1 => Option.bind (p58 N a0 n1) fun r2 => cond (hide (eqI (r1.2.1) (r2.2.1))) (cond (hide (eqB r1.1 r2.1)) (Option.bind (p59 N b2) fun r3 => Option.bind (p60 N b2) fun r4 => Option.bind (p54 N r3.1 r4.1) fun r5 => some ((Prod.fst r5, ()))) (some ((false, ())))) (some ((false, ()))))))
end
end Go.Proofs.Ytgimohchocjgcaa.V
