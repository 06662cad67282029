import Derived.Test.YtgimohchocjgcaaVME
import Derived.WalkKit
import Derived.ProofKit
import Derived.OpenShut
import Derived.Carry
import Derived.ChangeSlices
import Derived.Test.YtgimohchocjgcaaVRW
import Derived.Test.YtgimohchocjgcaaVTM
set_option linter.unusedVariables false
set_option linter.unusedSimpArgs false
namespace Go.Proofs.Ytgimohchocjgcaa.V
section
open Go.ChangeShapes Go.WideShapes Go.ChangeAt Go.RowKit
def zm4 (P : Program) (k : K) (t : TypeId) : Prop :=
  ∀ (H : Type) (enc : TypeId × Value -> H) (W : World) (base : Nat) (v : Value) (d : DataW H) (p : List MemPlace), Value.okWide P W .any base t v -> DataW.Trod enc P W 0 (fun _ => true) true t v d p ->
    ∃ x : k.T, zh0 W (fun b => b < W.heap.size) (k.enc x) v
theorem zhE {P : Program} {H : Type} {enc : TypeId × Value -> H} {W : World} {base : Nat} {sp : Nat -> Bool} {hd : Bool} : ∀ {ts : List TypeId} {vs : List Value} {ds : List (DataW H)} {p : List MemPlace}, DataW.TrodAll enc P W base sp hd ts vs ds p -> ds.length = ts.length
  | [], [], [], _, _ => rfl
  | _ :: _, _ :: _, _ :: _, _, ⟨_, _, _, h, _⟩ => by simp [zhE h]
  | [], _ :: _, _, _, h => by cases h
  | [], [], _ :: _, _, h => by cases h
  | _ :: _, [], _, _, h => by cases h
  | _ :: _, _ :: _, [], _, h => by cases h
theorem zv2 {k : IntKind} {n : Int} {P : Program} {W : World} {t : TypeId} {v : Value} {base : Nat} {H : Type} {enc : TypeId × Value -> H} {d : DataW H} {p : List MemPlace} (ht : P.underlying t = some (.int k)) (hv : Value.okWide P W .any base t v) (h : DataW.Trod enc P W 0 (fun _ => true) true t v d p) :
    ∃ n, v = .int k n /\ (Lit.int k n).wf = true := by
  obtain ⟨n, h1, _, _, h4⟩ := open_int ht hv h
  exact ⟨n, h1, h4⟩
theorem zs6 {P : Program} {t : TypeId} (ht : P.underlying t = some (.int .i64)) : zm4 P K.int t := fun H enc W base v d p hv h => by
  obtain ⟨n, rfl, _⟩ := zv2 (n := 0) ht hv h
  exact ⟨n, .sc rfl⟩
theorem zvj {P : Program} {t : TypeId} (ht : P.underlying t = some (.int .u8)) : zm4 P K.u8 t := fun H enc W base v d p hv h => by
  obtain ⟨n, rfl, hw⟩ := zv2 (n := 0) ht hv h
  have := bounds_u8 hw
  refine ⟨UInt8.ofNat n.toNat, .sc ?_⟩
  simp only [C.val, Option.some.injEq, Value.int.injEq, true_and]
  rw [UInt8.toNat_ofNat']
  omega
structure NumEl where
  e : El
  k : IntKind
  of : Int -> e.T
  one : e.size = 1
  val : ∀ n, (Lit.int k n).wf = true -> ∃ c, e.toC (of n) = [c] /\ c.val = some (.int k n)
def zC5 : NumEl := ⟨.u8, .u8, fun n => UInt8.ofNat n.toNat, rfl, fun n hw => ⟨_, rfl, by
  have := bounds_u8 hw
  simp only [C.val, Option.some.injEq, Value.int.injEq, true_and]
  rw [UInt8.toNat_ofNat']
  omega⟩⟩
theorem zlm (m : NumEl) (zs : List Int) (hw : ∀ n ∈ zs, (Lit.int m.k n).wf = true) (j : Nat) (c : C) (h : (flat m.e (zs.map m.of))[j]? = some c) : j < zs.length /\ c.val = some (.int m.k (zs.getD j 0)) := by
  induction zs generalizing j with
  | nil => simp [flat] at h
  | cons z zs ih =>
    obtain ⟨c0, h1, h2⟩ := m.val z (hw z (by simp))
    simp only [List.map_cons, flat, h1] at h
    cases j with
    | zero =>
      simp at h
      subst h
      exact ⟨by simp, by simpa using h2⟩
    | succ j =>
      simp at h
      obtain ⟨h3, h4⟩ := ih (fun n hn => hw n (by simp [hn])) j h
      exact ⟨by simpa using h3, by simpa using h4⟩
theorem zm5 {P : Program} {t e : TypeId} (m : NumEl) (ht : P.underlying t = some (.slice e)) (he : P.underlying e = some (.int m.k)) (hc : P.cellsOf e = 1) : zm4 P (K.ro m.e) t := fun H enc W base v d p hv h => by
  obtain ⟨ad, n, c, rfl⟩ := okWide_slice ht hv
  obtain ⟨fuel, hf⟩ := h
  rcases open_ints ht he hc hf with ⟨hcs, _⟩ | ⟨a, len, cap, zs, hcs, _, h1, h2, h3, _, h5, h6⟩
  . simp [Value.cells] at hcs
    obtain ⟨rfl, rfl, rfl⟩ := hcs
    exact ⟨[], .emp⟩
  . simp [Value.cells] at hcs
    obtain ⟨rfl, rfl, rfl⟩ := hcs
    simp only [if_true] at h3
    cases hn : n with
    | zero => exact ⟨[], .emp⟩
    | succ n' =>
      have hlen : ((zs.take n).map m.of).length = n := by simp; omega
      have h0 := h5 0 (by omega)
      have hspot : a.spot = none /\ a.block < W.heap.size := by
        have e0 : a.add 0 = a := by simp [Addr.add]
        rw [e0] at h0
        unfold World.cell? at h0
        split at h0
        . rename_i cs _ _ hb
          refine ⟨?_, (Array.getElem?_eq_some_iff.1 hb).1⟩
          cases hs : a.spot with
          | none => rfl
          | some q => rw [hs] at h0; simp at h0
        . cases h0
      obtain ⟨b, off, spot⟩ := a
      obtain ⟨hs, hb⟩ := hspot
      simp only at hs hb
      subst hs
      have hw : ∀ z ∈ zs.take n, (Lit.int m.k z).wf = true := fun z hz => h6 z (List.mem_of_mem_take hz)
      refine ⟨(zs.take n).map m.of, ?_⟩
      have := Holds.ro (w := W) (ok := fun b => b < W.heap.size) (e := m.e) (l := (zs.take n).map m.of) (b := b) (off := off) (cap := c) (fun j => .int m.k (zs.getD j 0)) (by rw [hlen]; exact h1) h2 hb (fun j c' hj => ?_) (fun j c' hj => ?_)
      . rw [hlen] at this
        rw [← hn]
        exact this
      . obtain ⟨q1, q2⟩ := zlm m _ hw j c' hj
        have := h5 j (by rw [List.length_take] at q1; omega)
        rw [zaT] at this
        exact this
      . obtain ⟨q1, q2⟩ := zlm m _ hw j c' hj
        rw [List.length_take] at q1
        refine .sc ?_
        rw [q2]
        congr 2
        simp only [List.getD_eq_getElem?_getD, List.getElem?_take]
        rw [if_pos (by omega)]
theorem zvk {P : Program} (hlaid : laidOutB P = true) {H : Type} {enc : TypeId × Value -> H} {fn : Func} {s : ChangeSpec} {apart fresh : Bool} {W W' : World} {args : Array Value} {ds gs : List (DataW H)} {before : List MemPlace} {tb : TypeId}
    (hread : ∀ t ∈ fn.params.toList, P.readableRec t = true /\ t < P.types.size) (hvars : s.vars = []) (hres : fn.resultTypes = #[tb]) (htb : P.underlying tb = some .bool)
    (hspec : s.fn H (ds ++ []) = { results := [.lit (.bool true)], args := ds })
    (hW : DataW.Whole enc P fn.params.toList s.vars apart W args.toList ds gs before) (hk : Kept W W') : s.post enc P fn apart fresh false false W args (.bool true) W' := by
  have hW' := hW
  obtain ⟨p, q, hA, hV, rfl, hz, hn⟩ := hW'
  rw [hvars] at hV
  obtain ⟨rfl, rfl⟩ := trodVars_none hV
  have hlt : ∀ x ∈ p, x.block < W.heap.size := fun x hx => hW.lt x (by simp [hx])
  have hbelow : Below W.heap.size W W' := ⟨hk.os, hk.tape, hk.output, hk.size, hk.block⟩
  have hargs : ∀ {ts : List TypeId} {vs : List Value} {ds : List (DataW H)} {p : List MemPlace}, (∀ t ∈ ts, P.readableRec t = true /\ t < P.types.size) -> DataW.TrodAll enc P W 0 (fun _ => true) true ts vs ds p -> (∀ x ∈ p, x.block < W.heap.size) ->
      DataW.TrodAll enc P W' 0 (fun b => decide (b < W.heap.size)) true ts vs ds p := by
    intro ts
    induction ts with
    | nil => intro vs ds p _ h _; cases vs <;> cases ds <;> first | exact h | exact h.elim
    | cons t ts ih =>
      intro vs ds p hr h hl
      cases vs with
      | nil => cases ds <;> exact h.elim
      | cons v vs => cases ds with
        | nil => exact h.elim
        | cons d ds =>
          obtain ⟨p1, q1, h1, h2, rfl⟩ := h
          exact ⟨p1, q1, Below.trod hlaid (hr t (by simp)).1 (hr t (by simp)).2 h1 hbelow (fun x hx => hl x (by simp [hx])), ih (fun t ht => hr t (by simp [ht])) h2 (fun x hx => hl x (by simp [hx])), rfl⟩
  have hkeep : W.keptBut W' (fun _ => False) := by
    refine ⟨hk.os, hk.output, fun i hi => ?_⟩
    rw [hk.block i hi]
    cases hb : W.heap[i]? with
    | none => trivial
    | some o => cases o <;> simp
  refine ⟨ds, [], p ++ [], [], p, [], hW, ?_, ?_, ?_, World.keptBut_mono (fun _ h => h.elim) hkeep, fun h => by cases h⟩
  . rw [hspec, hres]
    refine ⟨[], [], ⟨1, ?_⟩, rfl, rfl⟩
    simp [DataW.trod, htb, Value.cells, Value.resultList]
  . rw [hspec]
    exact hargs hread hA hlt
  . rw [hspec, hvars]
    rfl
end
section
open Go.ChangeShapes Go.WideShapes Go.ChangeAt Go.RowKit
theorem own : ownKnob Try.prog.godebug = none := by kernel_rfl
theorem laid : laidOutB Try.pinned.checked.prog = true := by kernel_rfl
theorem zC6 : mapsRowed Try.pinned.checked.prog = true := by kernel_rfl
theorem zC7 : Try.pinned.checked.prog.stopsHeard = true := by kernel_rfl
theorem zpe : Try.pinned.checked.prog.mayEnter = true := zpi
theorem zyz : zm4 Try.prog (K.ro .u8) 24 := zm5 zC5 Try.underlying24 Try.underlying5 (by kernel_rfl)
theorem zBz : zm4 Try.prog K.int 3 := zs6 Try.underlying3
theorem zBA : zm4 Try.prog K.u8 5 := zvj Try.underlying5
end
section
open Go.ChangeShapes Go.WideShapes Go.ChangeAt Go.RowKit
deriving instance DecidableEq for CS
section
variable {P : Program} {els : List (Nat × El)} {W : World} {H : Type} {enc : TypeId × Value -> H}
end
structure KQ where
  k : K
  q : k.T -> Prop
def TKQ : (l : List KQ) -> TKs (l.map KQ.k) -> Prop
  | [], _ => True
  | a :: l, x => a.q x.1 /\ TKQ l x.2
def zln (P : Program) (a : KQ) (t : TypeId) : Prop :=
  ∀ (H : Type) (enc : TypeId × Value -> H) (W : World) (base : Nat) (v : Value) (d : DataW H) (p : List MemPlace), Value.okWide P W .any base t v -> DataW.Trod enc P W 0 (fun _ => true) true t v d p ->
    ∃ x : a.k.T, a.q x /\ zh0 W (fun b => b < W.heap.size) (a.k.enc x) v
def zlo (P : Program) : List KQ -> List TypeId -> Prop
  | [], [] => True
  | k :: ks, t :: ts => zln P k t /\ zlo P ks ts
  | _, _ => False
theorem zhF {P : Program} {H : Type} {enc : TypeId × Value -> H} {W : World} {base : Nat} : ∀ {ks : List KQ} {ts : List TypeId} {vs : List Value} {ds : List (DataW H)} {p : List MemPlace}, zlo P ks ts -> DataW.TrodAll enc P W 0 (fun _ => true) true ts vs ds p ->
    (∀ (j : Nat) t v, ts[j]? = some t -> vs[j]? = some v -> Value.okWide P W .any base t v) -> ∃ x : TKs (ks.map KQ.k), TKQ ks x /\ zaX W (fun b => b < W.heap.size) (zeg (ks.map KQ.k) x) vs
  | [], [], [], [], _, _, _, _ => ⟨(), trivial, trivial⟩
  | k :: ks, t :: ts, v :: vs, d :: ds, p, ho, ht, hv => by
    obtain ⟨p1, q1, h1, h2, _⟩ := ht
    obtain ⟨x, hx0, hx⟩ := ho.1 H enc W base v d p1 (hv 0 t v rfl rfl) h1
    obtain ⟨y, hy0, hy⟩ := zhF ho.2 h2 fun j t v hj hw => hv (j + 1) t v (by simpa using hj) (by simpa using hw)
    exact ⟨(x, y), ⟨hx0, hy0⟩, hx, hy⟩
  | [], _ :: _, _, _, _, ho, _, _ => ho.elim
  | _ :: _, [], _, _, _, ho, _, _ => ho.elim
  | [], [], _ :: _, _, _, _, ht, _ => by cases ht
  | [], [], [], _ :: _, _, _, ht, _ => by cases ht
  | _ :: _, _ :: _, [], _, _, _, ht, _ => by cases ht
  | _ :: _, _ :: _, _ :: _, [], _, _, ht, _ => by cases ht
def KQ.any (k : K) : KQ := ⟨k, fun _ => True⟩
theorem zhG {P : Program} {k : K} {t : TypeId} (h : zm4 P k t) : zln P (KQ.any k) t := fun H enc W base v d p hv ht => by
  obtain ⟨x, hx⟩ := h H enc W base v d p hv ht
  exact ⟨x, trivial, hx⟩
def isAgg : TypeDesc -> Bool
  | .struct _ => true
  | .array _ _ => true
  | _ => false
def KQ.vec (e : El) (n : Nat) : KQ := ⟨K.vec e, fun l => l.length = n⟩
theorem zpf {P : Program} {pd : PD} (hp : PDok P pd) {env : Nat -> Option Sg} (henv : ∀ f g, env f = some g -> SgOK P pd.els f g) {n : FuncId} {fn : Func} (hf : P.funcs[n]? = some fn) (hname : fn.name ≠ "runtime.NumGoroutine")
    (ps : List K) (f : TKs ps -> Option (TKs [K.bool])) (N : Nat) (tab : List (Nat × Head)) (d : Nat)
    (hrun : ∀ x, zj5 pd env fn (zcb [K.bool]) (mkLp pd env (zdv pd fn (zcb [K.bool])) N tab d) (zeg ps x) = f x)
    (x : TKs ps) (hx : f x = some (true, ())) (w : World) (vs : List Value) (ok : Nat -> Prop) (hok : ∀ b, ok b -> b < w.heap.size) (hh : zaX w ok (zeg ps x) vs) :
    Calls P n vs.toArray w fun e w' => e = .returned (.bool true) /\ Kept w w' := by
  have h := ztQ (P := P) (pd := pd) hp henv hf hname ⟨TKs [K.bool], 0, fun us => zj5 pd env fn (zcb [K.bool]) (mkLp pd env (zdv pd fn (zcb [K.bool])) N tab d) us, fun r => zql (zeg [K.bool] r)⟩ rfl (zcb [K.bool])
    (fun us r h => by rw [zbZ h]) N tab d (fun us r h => h) (us := zeg ps x) (r := (true, ())) ((hrun x).trans hx) w vs ok hok hh
  refine h.mono fun e w' he => ?_
  cases e with
  | returned v =>
    obtain ⟨⟨gs, cs, h1, h2⟩, h3⟩ := he
    refine ⟨?_, h3⟩
    cases h1 with
    | c h4 =>
      cases h4
      cases h2 with
      | sc h5 _ => simp only [C.val, Option.some.injEq] at h5; subst h5; rfl
  | panicked ch => exact he.elim
  | outgrown => exact he.elim
end
section
open Go.ChangeShapes Go.WideShapes Go.ChangeAt Go.RowKit
theorem oq24 : zln Try.prog (KQ.any (K.ro .u8)) 24 := zhG zyz
theorem oq3 : zln Try.prog (KQ.any K.int) 3 := zhG zBz
theorem oq5 : zln Try.prog (KQ.any K.u8) 5 := zhG zBA
end
section
def KQ.ro (e : El) : KQ := ⟨K.ro e, fun l => (show List e.T from l).length < 9223372036854775808⟩
end
end Go.Proofs.Ytgimohchocjgcaa.V
