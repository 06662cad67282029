import Derived.Test.YtgimohchocjgcaaVWC8
import Derived.KernelRfl
import Derived.Test.YtgimohchocjgcaaVME
import Derived.WalkKit
import Derived.ProofKit
import Derived.OpenShut
import Derived.Carry
import Derived.ChangeSlices
import Derived.Test.YtgimohchocjgcaaVRW
import Derived.Test.YtgimohchocjgcaaVTM
set_option linter.unusedVariables false
set_option linter.unusedSimpArgs false
namespace Go.Proofs.Ytgimohchocjgcaa.V
section
def mrg (p q w : Int) : Int := cond (eqI w p) (mnI p q) (cond (eqI w q) (mnI p q) w)
theorem zsP (p q : Int) : (mnI p q = p \/ mnI p q = q) /\ mnI p q <= p /\ mnI p q <= q := by
  unfold mnI
  by_cases h : q < p
  . rw [zae h, cond_true]; omega
  . rw [zac h, cond_false]; omega
theorem ziB (p q w : Int) : (mrg p q w = w /\ w ≠ p /\ w ≠ q) \/ ((w = p \/ w = q) /\ mrg p q w = mnI p q) := by
  unfold mrg
  by_cases h1 : w = p
  . rw [zax h1, cond_true]; exact .inr ⟨.inl h1, rfl⟩
  . rw [zaR h1, cond_false]
    by_cases h2 : w = q
    . rw [zax h2, cond_true]; exact .inr ⟨.inr h2, rfl⟩
    . rw [zaR h2, cond_false]; exact .inl ⟨rfl, h1, h2⟩
theorem zb9 (f : Int -> Int) (l : List Int) (i : Nat) (h : i < l.length) : (l.map f).getD i 0 = f (l.getD i 0) := by
  rw [List.getD_eq_getElem?_getD, List.getD_eq_getElem?_getD, List.getElem?_map, List.getElem?_eq_getElem h]
  rfl
theorem Alike2.mono {S T : List Pr} (h : ∀ p ∈ S, p ∈ T) {a b : Int} (ha : Alike2 S a b) : Alike2 T a b := by
  induction ha with
  | refl a => exact .refl a
  | pair hp => exact .pair (h _ hp)
  | symm _ ih => exact ih.symm
  | trans _ _ h1 h2 => exact h1.trans h2
theorem zys {S : List Pr} {V : Nat} {cl : List Int} (hS : zbm S V) (g : GoodC S V cl) (f : FixC S cl) {x y : Nat} (hx : x < V) (hy : y < V) :
    GoodC (S ++ [⟨(x : Int), (y : Int)⟩]) V (cl.map (mrg (cl.getD x 0) (cl.getD y 0))) /\ FixC (S ++ [⟨(x : Int), (y : Int)⟩]) (cl.map (mrg (cl.getD x 0) (cl.getD y 0))) := by
  generalize hp : cl.getD x 0 = p
  generalize hq : cl.getD y 0 = q
  have hm := zsP p q
  have hp0 : 0 <= p := by rw [← hp]; exact g.nn x hx
  have hq0 : 0 <= q := by rw [← hq]; exact g.nn y hy
  have up : ∀ {a b : Int}, Alike2 S a b -> Alike2 (S ++ [⟨(x : Int), (y : Int)⟩]) a b := fun h => h.mono fun r hr => List.mem_append_left _ hr
  have hxp : Alike2 S (x : Int) p := by rw [← hp]; exact g.al x hx
  have hyq : Alike2 S (y : Int) q := by rw [← hq]; exact g.al y hy
  have hxy : Alike2 (S ++ [⟨(x : Int), (y : Int)⟩]) (x : Int) (y : Int) := .pair (p := ⟨(x : Int), (y : Int)⟩) (List.mem_append_right _ (List.mem_singleton.2 rfl))
  have hpq : Alike2 (S ++ [⟨(x : Int), (y : Int)⟩]) p q := (up hxp).symm.trans (hxy.trans (up hyq))
  have hpm : Alike2 (S ++ [⟨(x : Int), (y : Int)⟩]) p (mnI p q) := by
    rcases hm.1 with e | e
    . rw [e]; exact .refl _
    . rw [e]; exact hpq
  have hqm : Alike2 (S ++ [⟨(x : Int), (y : Int)⟩]) q (mnI p q) := hpq.symm.trans hpm
  refine ⟨⟨by rw [List.length_map]; exact g.len, fun i hi => ?_, fun i hi => ?_, fun i hi => ?_⟩, fun r hr => ?_⟩
  . rw [zb9 _ _ _ (by rw [g.len]; exact hi)]
    have := g.nn i hi
    rcases ziB p q (cl.getD i 0) with ⟨e, _⟩ | ⟨_, e⟩
    . omega
    . rcases hm.1 with e2 | e2 <;> omega
  . rw [zb9 _ _ _ (by rw [g.len]; exact hi)]
    have := g.le i hi
    rcases ziB p q (cl.getD i 0) with ⟨e, _⟩ | ⟨h, e⟩
    . omega
    . rcases h with h | h <;> omega
  . rw [zb9 _ _ _ (by rw [g.len]; exact hi)]
    have := up (g.al i hi)
    rcases ziB p q (cl.getD i 0) with ⟨e, _⟩ | ⟨h, e⟩
    . rw [e]; exact this
    . rw [e]
      rcases h with h | h
      . rw [h] at this; exact this.trans hpm
      . rw [h] at this; exact this.trans hqm
  . rcases List.mem_append.1 hr with hr | hr
    . obtain ⟨⟨a0, a1⟩, b0, b1⟩ := hS r hr
      rw [zb9 _ _ _ (by rw [g.len]; omega), zb9 _ _ _ (by rw [g.len]; omega), f r hr]
    . rw [List.mem_singleton] at hr
      subst hr
      simp only [Int.toNat_natCast]
      rw [zb9 _ _ _ (by rw [g.len]; exact hx), zb9 _ _ _ (by rw [g.len]; exact hy), hp, hq]
      have e1 : mrg p q p = mnI p q := by unfold mrg; rw [zax rfl, cond_true]
      have e2 : mrg p q q = mnI p q := by
        unfold mrg
        by_cases h : q = p
        . rw [zax h, cond_true]
        . rw [zaR h, cond_false, zax rfl, cond_true]
      rw [e1, e2]
theorem zmo {N V : Nat} {S : List Pr} {was now : List Int} {p q c0 v1 : Int} {rows : List Row} {T : List Pr} (hV : V <= 200) (h1 : was.length = V) (g : GoodC S V now) (hS : zbm S V) (f : FixC S now)
    (hm : ∀ i, i < V -> now.getD i 0 = mrg p q (was.getD i 0)) : ∀ (k i n : Nat), i + k = V -> k < n -> zhK N n p q (i : Int) c0 (V : Int) was now rows T = some (true, ())
  | 0, i, n + 1, hk, hn => by
    rw [zgC]
    unfold zhJ
    rw [zac (by omega), cond_false]
  | k + 1, i, n + 1, hk, hn => by
    have hi : i < V := by omega
    have ih := zmo (N := N) (c0 := c0) (v1 := v1) (rows := rows) (T := T) hV h1 g hS f hm k (i + 1) n (by omega) (by omega)
    rw [zgC]
    unfold zhJ
    have b1 : (leI 0 (i : Int) && ltI (i : Int) (was.length : Int)) = true := by rw [zaO (by omega), zae (by omega)]; rfl
    have b2 : (leI 0 (i : Int) && ltI (i : Int) (now.length : Int)) = true := by rw [zaO (by omega), zae (by have := g.len; omega)]; rfl
    have hn0 := g.nn i hi
    have hle := g.le i hi
    have b3 : (leI 0 (now.getD i 0) && ltI (now.getD i 0) (now.length : Int)) = true := by rw [zaO hn0, zae (by have := g.len; omega)]; rfl
    have hid : now.getD (now.getD i 0).toNat 0 = now.getD i 0 := by
      have := zjq hS f (g.al i hi)
      rw [Int.toNat_natCast] at this
      exact this.symm
    rw [zae (by omega), cond_true, Int.toNat_natCast, b1, b2, b3, hid, zay (by omega), ih]
    simp only [mst2]
    rw [zac (by omega : ¬ now.getD i 0 < 0), zac (by omega : ¬ (i : Int) < now.getD i 0), zax rfl]
    simp only [cond_false, Bool.not_true]
    have := hm i hi
    unfold mrg at this
    by_cases e1 : was.getD i 0 = p
    . rw [zax e1, cond_true] at this
      rw [zax e1, cond_true, this, zax rfl]
      rfl
    . rw [zaR e1, cond_false] at this
      rw [zaR e1, cond_false]
      by_cases e2 : was.getD i 0 = q
      . rw [zax e2, cond_true] at this
        rw [zax e2, cond_true, this, zax rfl]
        rfl
      . rw [zaR e2, cond_false] at this
        rw [zaR e2, cond_false, this, zax rfl]
        rfl
theorem GoodCirc.more {c0 : Int} {V : Nat} {rows : List Row} {S : List Pr} (h : GoodCirc c0 (V : Int) rows S) {x y : Nat} (hx : x < V) (hy : y < V) (hl : S.length < 200) : GoodCirc c0 (V : Int) rows (S ++ [⟨(x : Int), (y : Int)⟩]) := by
  refine ⟨h.p0, h.p8, h.v0, h.v200, h.rows, by simp; omega, h.pub, h.big, h.unk, ?_, h.form⟩
  rw [List.any_append, h.unkp]
  simp only [List.any_cons, List.any_nil, Bool.or_false, Bool.false_or]
  unfold unkP
  simp only
  rw [zac (by omega), zaz (by omega), zac (by omega), zaz (by omega)]
  rfl
theorem zeN (l : List UInt8) (a b : UInt8) : q36 100000 l a b = some (true, ()) := by
  unfold q36
  rw [zvq]
  simp only [bsm]
  rw [Bool.not_true, cond_false]
  cases hlen : ltI 80 (l.length : Int)
  case true => rfl
  obtain ⟨n, a', b', s, g, ha, hb, hg, hp, hi, hgd, hgc, e⟩ := zsM (N := 100000) (most := 14) (by omega) (by omega) l
  rw [cond_false, show ((14 : Nat) : Int) = (14 : Int) from rfl] at *
  rw [e]
  simp only [bsm, PlS.res]
  have hv2 := hi.v2
  have hmm := hi.m
  generalize hc0 : (s.pb.length : Int) = c0 at *
  generalize hV : s.vs.length = V at *
  have hx : a.toNat % V < V := Nat.mod_lt _ (by omega)
  have hy : b.toNat % V < V := Nat.mod_lt _ (by omega)
  have hV2 := hgc.v200
  have may : ∀ {S}, GoodCirc c0 (V : Int) (s.pb ++ s.rw) S -> q119 100000 c0 (V : Int) (s.pb ++ s.rw) S = some (0, ()) := fun h => by
    rw [zvp (by omega) _ _ _ _ (by have := h.rows; omega) (by have := h.same; omega), h.may]
  have hS1 := hgc.pairs (V := V) rfl
  obtain ⟨cl, e4, _, gc, fc⟩ := zhG (c0 := c0) (v2 := s.pb ++ s.rw) hS1 (by have := hgc.same; omega) (by omega) (by omega : 100000 <= 100000) (may hgc)
  have hgc2 := hgc.more hx hy (by omega)
  have hS2 := hgc2.pairs (V := V) rfl
  obtain ⟨cl2, e5, _, gc2, fc2⟩ := zhG (c0 := c0) (v2 := s.pb ++ s.rw) hS2 (by have := hgc2.same; omega) (by omega) (by omega : 100000 <= 100000) (may hgc2)
  obtain ⟨gm, fm⟩ := zys hS1 gc fc hx hy
  have heq := zhF hS2 gc2 gm fc2 fm
  rw [zaR (by omega : ¬ (V : Int) = 0)]
  simp only [Bool.not_false, mst2, zmc]
  rw [e4]
  simp only [bsm]
  rw [zaE (by omega), zaE (by simp; omega), mst2, mst2, e5]
  simp only [bsm]
  rw [zax (by rw [gc.len]), zax (by rw [gc2.len])]
  simp only [Bool.not_true, cond_false]
  rw [zaO (by omega), zae (by rw [gc.len]; omega), zaO (by omega), zae (by rw [gc.len]; omega)]
  simp only [Bool.and_self, mst2, Int.toNat_natCast]
  exact zmo (v1 := (V : Int)) (by omega) gc.len gc2 hS2 fc2 (fun i hi => by rw [heq, zb9 _ _ _ (by rw [gc.len]; exact hi)]) V 0 100000 (by omega) (by omega)
end
section
open Go.ChangeShapes Go.WideShapes Go.ChangeAt Go.RowKit
def zqU (P : Program) (k : K) (t : TypeId) : Prop :=
  ∀ (H : Type) (enc : TypeId × Value -> H) (W : World) (base : Nat) (v : Value) (d : DataW H) (p : List MemPlace), Value.okWide P W .any base t v -> DataW.Trod enc P W 0 (fun _ => true) true t v d p ->
    ∃ x : k.T, zgY W (fun b => b < W.heap.size) (k.enc x) v
theorem zgD {P : Program} {H : Type} {enc : TypeId × Value -> H} {W : World} {base : Nat} {sp : Nat -> Bool} {hd : Bool} : ∀ {ts : List TypeId} {vs : List Value} {ds : List (DataW H)} {p : List MemPlace}, DataW.TrodAll enc P W base sp hd ts vs ds p -> ds.length = ts.length
  | [], [], [], _, _ => rfl
  | _ :: _, _ :: _, _ :: _, _, ⟨_, _, _, h, _⟩ => by simp [zgD h]
  | [], _ :: _, _, _, h => by cases h
  | [], [], _ :: _, _, h => by cases h
  | _ :: _, [], _, _, h => by cases h
  | _ :: _, _ :: _, [], _, h => by cases h
theorem zyt {k : IntKind} {n : Int} {P : Program} {W : World} {t : TypeId} {v : Value} {base : Nat} {H : Type} {enc : TypeId × Value -> H} {d : DataW H} {p : List MemPlace} (ht : P.underlying t = some (.int k)) (hv : Value.okWide P W .any base t v) (h : DataW.Trod enc P W 0 (fun _ => true) true t v d p) :
    ∃ n, v = .int k n /\ (Lit.int k n).wf = true := by
  obtain ⟨n, h1, _, _, h4⟩ := open_int ht hv h
  exact ⟨n, h1, h4⟩
theorem zsQ {P : Program} {t : TypeId} (ht : P.underlying t = some (.int .u8)) : zqU P K.u8 t := fun H enc W base v d p hv h => by
  obtain ⟨n, rfl, hw⟩ := zyt (n := 0) ht hv h
  have := bounds_u8 hw
  refine ⟨UInt8.ofNat n.toNat, .sc ?_⟩
  simp only [C.val, Option.some.injEq, Value.int.injEq, true_and]
  rw [UInt8.toNat_ofNat']
  omega
structure NumEl where
  e : El
  k : IntKind
  of : Int -> e.T
  one : e.size = 1
  val : ∀ n, (Lit.int k n).wf = true -> ∃ c, e.toC (of n) = [c] /\ c.val = some (.int k n)
def zAk : NumEl := ⟨.u8, .u8, fun n => UInt8.ofNat n.toNat, rfl, fun n hw => ⟨_, rfl, by
  have := bounds_u8 hw
  simp only [C.val, Option.some.injEq, Value.int.injEq, true_and]
  rw [UInt8.toNat_ofNat']
  omega⟩⟩
theorem zjD (m : NumEl) (zs : List Int) (hw : ∀ n ∈ zs, (Lit.int m.k n).wf = true) (j : Nat) (c : C) (h : (flat m.e (zs.map m.of))[j]? = some c) : j < zs.length /\ c.val = some (.int m.k (zs.getD j 0)) := by
  induction zs generalizing j with
  | nil => simp [flat] at h
  | cons z zs ih =>
    obtain ⟨c0, h1, h2⟩ := m.val z (hw z (by simp))
    simp only [List.map_cons, flat, h1] at h
    cases j with
    | zero =>
      simp at h
      subst h
      exact ⟨by simp, by simpa using h2⟩
    | succ j =>
      simp at h
      obtain ⟨h3, h4⟩ := ih (fun n hn => hw n (by simp [hn])) j h
      exact ⟨by simpa using h3, by simpa using h4⟩
theorem zlq {P : Program} {t e : TypeId} (m : NumEl) (ht : P.underlying t = some (.slice e)) (he : P.underlying e = some (.int m.k)) (hc : P.cellsOf e = 1) : zqU P (K.ro m.e) t := fun H enc W base v d p hv h => by
  obtain ⟨ad, n, c, rfl⟩ := okWide_slice ht hv
  obtain ⟨fuel, hf⟩ := h
  rcases open_ints ht he hc hf with ⟨hcs, _⟩ | ⟨a, len, cap, zs, hcs, _, h1, h2, h3, _, h5, h6⟩
  . simp [Value.cells] at hcs
    obtain ⟨rfl, rfl, rfl⟩ := hcs
    exact ⟨[], .emp⟩
  . simp [Value.cells] at hcs
    obtain ⟨rfl, rfl, rfl⟩ := hcs
    simp only [if_true] at h3
    cases hn : n with
    | zero => exact ⟨[], .emp⟩
    | succ n' =>
      have hlen : ((zs.take n).map m.of).length = n := by simp; omega
      have h0 := h5 0 (by omega)
      have hspot : a.spot = none /\ a.block < W.heap.size := by
        have e0 : a.add 0 = a := by simp [Addr.add]
        rw [e0] at h0
        unfold World.cell? at h0
        split at h0
        . rename_i cs _ _ hb
          refine ⟨?_, (Array.getElem?_eq_some_iff.1 hb).1⟩
          cases hs : a.spot with
          | none => rfl
          | some q => rw [hs] at h0; simp at h0
        . cases h0
      obtain ⟨b, off, spot⟩ := a
      obtain ⟨hs, hb⟩ := hspot
      simp only at hs hb
      subst hs
      have hw : ∀ z ∈ zs.take n, (Lit.int m.k z).wf = true := fun z hz => h6 z (List.mem_of_mem_take hz)
      refine ⟨(zs.take n).map m.of, ?_⟩
      have := Holds.ro (w := W) (ok := fun b => b < W.heap.size) (e := m.e) (l := (zs.take n).map m.of) (b := b) (off := off) (cap := c) (fun j => .int m.k (zs.getD j 0)) (by rw [hlen]; exact h1) h2 hb (fun j c' hj => ?_) (fun j c' hj => ?_)
      . rw [hlen] at this
        rw [← hn]
        exact this
      . obtain ⟨q1, q2⟩ := zjD m _ hw j c' hj
        have := h5 j (by rw [List.length_take] at q1; omega)
        rw [zaN] at this
        exact this
      . obtain ⟨q1, q2⟩ := zjD m _ hw j c' hj
        rw [List.length_take] at q1
        refine .sc ?_
        rw [q2]
        congr 2
        simp only [List.getD_eq_getElem?_getD, List.getElem?_take]
        rw [if_pos (by omega)]
theorem zsR {P : Program} (hlaid : laidOutB P = true) {H : Type} {enc : TypeId × Value -> H} {fn : Func} {s : ChangeSpec} {apart fresh : Bool} {W W' : World} {args : Array Value} {ds gs : List (DataW H)} {before : List MemPlace} {tb : TypeId}
    (hread : ∀ t ∈ fn.params.toList, P.readableRec t = true /\ t < P.types.size) (hvars : s.vars = []) (hres : fn.resultTypes = #[tb]) (htb : P.underlying tb = some .bool)
    (hspec : s.fn H (ds ++ []) = { results := [.lit (.bool true)], args := ds })
    (hW : DataW.Whole enc P fn.params.toList s.vars apart W args.toList ds gs before) (hk : Kept W W') : s.post enc P fn apart fresh false false W args (.bool true) W' := by
  have hW' := hW
  obtain ⟨p, q, hA, hV, rfl, hz, hn⟩ := hW'
  rw [hvars] at hV
  obtain ⟨rfl, rfl⟩ := trodVars_none hV
  have hlt : ∀ x ∈ p, x.block < W.heap.size := fun x hx => hW.lt x (by simp [hx])
  have hbelow : Below W.heap.size W W' := ⟨hk.os, hk.tape, hk.output, hk.size, hk.block⟩
  have hargs : ∀ {ts : List TypeId} {vs : List Value} {ds : List (DataW H)} {p : List MemPlace}, (∀ t ∈ ts, P.readableRec t = true /\ t < P.types.size) -> DataW.TrodAll enc P W 0 (fun _ => true) true ts vs ds p -> (∀ x ∈ p, x.block < W.heap.size) ->
      DataW.TrodAll enc P W' 0 (fun b => decide (b < W.heap.size)) true ts vs ds p := by
    intro ts
    induction ts with
    | nil => intro vs ds p _ h _; cases vs <;> cases ds <;> first | exact h | exact h.elim
    | cons t ts ih =>
      intro vs ds p hr h hl
      cases vs with
      | nil => cases ds <;> exact h.elim
      | cons v vs => cases ds with
        | nil => exact h.elim
        | cons d ds =>
          obtain ⟨p1, q1, h1, h2, rfl⟩ := h
          exact ⟨p1, q1, Below.trod hlaid (hr t (by simp)).1 (hr t (by simp)).2 h1 hbelow (fun x hx => hl x (by simp [hx])), ih (fun t ht => hr t (by simp [ht])) h2 (fun x hx => hl x (by simp [hx])), rfl⟩
  have hkeep : W.keptBut W' (fun _ => False) := by
    refine ⟨hk.os, hk.output, fun i hi => ?_⟩
    rw [hk.block i hi]
    cases hb : W.heap[i]? with
    | none => trivial
    | some o => cases o <;> simp
  refine ⟨ds, [], p ++ [], [], p, [], hW, ?_, ?_, ?_, World.keptBut_mono (fun _ h => h.elim) hkeep, fun h => by cases h⟩
  . rw [hspec, hres]
    refine ⟨[], [], ⟨1, ?_⟩, rfl, rfl⟩
    simp [DataW.trod, htb, Value.cells, Value.resultList]
  . rw [hspec]
    exact hargs hread hA hlt
  . rw [hspec, hvars]
    rfl
end
section
open Go.ChangeShapes Go.WideShapes Go.ChangeAt Go.RowKit
theorem own : ownKnob Try.prog.godebug = none := by kernel_rfl
theorem laid : laidOutB Try.pinned.checked.prog = true := by kernel_rfl
theorem zAl : mapsRowed Try.pinned.checked.prog = true := by kernel_rfl
theorem zAm : Try.pinned.checked.prog.stopsHeard = true := by kernel_rfl
theorem znl : Try.pinned.checked.prog.mayEnter = true := znp
theorem zvw : zqU Try.prog (K.ro .u8) 24 := zlq zAk Try.underlying24 Try.underlying5 (by kernel_rfl)
theorem zyu : zqU Try.prog K.u8 5 := zsQ Try.underlying5
end
section
open Go.ChangeShapes Go.WideShapes Go.ChangeAt Go.RowKit
deriving instance DecidableEq for CS
section
variable {P : Program} {els : List (Nat × El)} {W : World} {H : Type} {enc : TypeId × Value -> H}
end
structure KQ where
  k : K
  q : k.T -> Prop
def TKQ : (l : List KQ) -> TKs (l.map KQ.k) -> Prop
  | [], _ => True
  | a :: l, x => a.q x.1 /\ TKQ l x.2
def zmp (P : Program) (a : KQ) (t : TypeId) : Prop :=
  ∀ (H : Type) (enc : TypeId × Value -> H) (W : World) (base : Nat) (v : Value) (d : DataW H) (p : List MemPlace), Value.okWide P W .any base t v -> DataW.Trod enc P W 0 (fun _ => true) true t v d p ->
    ∃ x : a.k.T, a.q x /\ zgY W (fun b => b < W.heap.size) (a.k.enc x) v
def zjE (P : Program) : List KQ -> List TypeId -> Prop
  | [], [] => True
  | k :: ks, t :: ts => zmp P k t /\ zjE P ks ts
  | _, _ => False
theorem zgE {P : Program} {H : Type} {enc : TypeId × Value -> H} {W : World} {base : Nat} : ∀ {ks : List KQ} {ts : List TypeId} {vs : List Value} {ds : List (DataW H)} {p : List MemPlace}, zjE P ks ts -> DataW.TrodAll enc P W 0 (fun _ => true) true ts vs ds p ->
    (∀ (j : Nat) t v, ts[j]? = some t -> vs[j]? = some v -> Value.okWide P W .any base t v) -> ∃ x : TKs (ks.map KQ.k), TKQ ks x /\ za8 W (fun b => b < W.heap.size) (zeB (ks.map KQ.k) x) vs
  | [], [], [], [], _, _, _, _ => ⟨(), trivial, trivial⟩
  | k :: ks, t :: ts, v :: vs, d :: ds, p, ho, ht, hv => by
    obtain ⟨p1, q1, h1, h2, _⟩ := ht
    obtain ⟨x, hx0, hx⟩ := ho.1 H enc W base v d p1 (hv 0 t v rfl rfl) h1
    obtain ⟨y, hy0, hy⟩ := zgE ho.2 h2 fun j t v hj hw => hv (j + 1) t v (by simpa using hj) (by simpa using hw)
    exact ⟨(x, y), ⟨hx0, hy0⟩, hx, hy⟩
  | [], _ :: _, _, _, _, ho, _, _ => ho.elim
  | _ :: _, [], _, _, _, ho, _, _ => ho.elim
  | [], [], _ :: _, _, _, _, ht, _ => by cases ht
  | [], [], [], _ :: _, _, _, ht, _ => by cases ht
  | _ :: _, _ :: _, [], _, _, _, ht, _ => by cases ht
  | _ :: _, _ :: _, _ :: _, [], _, _, ht, _ => by cases ht
def KQ.any (k : K) : KQ := ⟨k, fun _ => True⟩
theorem zjF {P : Program} {k : K} {t : TypeId} (h : zqU P k t) : zmp P (KQ.any k) t := fun H enc W base v d p hv ht => by
  obtain ⟨x, hx⟩ := h H enc W base v d p hv ht
  exact ⟨x, trivial, hx⟩
def isAgg : TypeDesc -> Bool
  | .struct _ => true
  | .array _ _ => true
  | _ => false
def KQ.vec (e : El) (n : Nat) : KQ := ⟨K.vec e, fun l => l.length = n⟩
theorem znm {P : Program} {pd : PD} (hp : PDok P pd) {env : Nat -> Option Sg} (henv : ∀ f g, env f = some g -> SgOK P pd.els f g) {n : FuncId} {fn : Func} (hf : P.funcs[n]? = some fn) (hname : fn.name ≠ "runtime.NumGoroutine")
    (ps : List K) (f : TKs ps -> Option (TKs [K.bool])) (N : Nat) (tab : List (Nat × Head)) (d : Nat)
    (hrun : ∀ x, ziM pd env fn (zcb [K.bool]) (mkLp pd env (zcR pd fn (zcb [K.bool])) N tab d) (zeB ps x) = f x)
    (x : TKs ps) (hx : f x = some (true, ())) (w : World) (vs : List Value) (ok : Nat -> Prop) (hok : ∀ b, ok b -> b < w.heap.size) (hh : za8 w ok (zeB ps x) vs) :
    Calls P n vs.toArray w fun e w' => e = .returned (.bool true) /\ Kept w w' := by
  have h := zrz (P := P) (pd := pd) hp henv hf hname ⟨TKs [K.bool], 0, fun us => ziM pd env fn (zcb [K.bool]) (mkLp pd env (zcR pd fn (zcb [K.bool])) N tab d) us, fun r => zoq (zeB [K.bool] r)⟩ rfl (zcb [K.bool])
    (fun us r h => by rw [zcN h]) N tab d (fun us r h => h) (us := zeB ps x) (r := (true, ())) ((hrun x).trans hx) w vs ok hok hh
  refine h.mono fun e w' he => ?_
  cases e with
  | returned v =>
    obtain ⟨⟨gs, cs, h1, h2⟩, h3⟩ := he
    refine ⟨?_, h3⟩
    cases h1 with
    | c h4 =>
      cases h4
      cases h2 with
      | sc h5 _ => simp only [C.val, Option.some.injEq] at h5; subst h5; rfl
  | panicked ch => exact he.elim
  | outgrown => exact he.elim
end
section
open Go.ChangeShapes Go.WideShapes Go.ChangeAt Go.RowKit
theorem oq24 : zmp Try.prog (KQ.any (K.ro .u8)) 24 := zjF zvw
theorem oq5 : zmp Try.prog (KQ.any K.u8) 5 := zjF zyu
end
section
def KQ.ro (e : El) : KQ := ⟨K.ro e, fun l => (show List e.T from l).length < 9223372036854775808⟩
end
end Go.Proofs.Ytgimohchocjgcaa.V
