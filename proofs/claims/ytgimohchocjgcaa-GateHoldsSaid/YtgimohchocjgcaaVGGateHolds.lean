import Derived.Test.YtgimohchocjgcaaVRW
import Derived.Test.YtgimohchocjgcaaVGH3
import Derived.Test.YtgimohchocjgcaaVOS
set_option linter.unusedVariables false
set_option linter.unusedSimpArgs false
namespace Go.Proofs.Ytgimohchocjgcaa.V.gateHolds
open Go.ChangeShapes Go.WideShapes Go.ChangeAt Go.RowKit
set_option maxRecDepth 100000 in
theorem runs (N : Nat) (x : TKs ([KQ.any K.u8, KQ.any K.fr5, KQ.any K.fr, KQ.any K.fr, KQ.any K.fr, KQ.any K.bool].map KQ.k)) : runFn pd (fun f => look f (env24 N)) Try.f24 (decUs [K.bool]) (mkLp pd (fun f => look f (env24 N)) (finish pd Try.f24 (decUs [K.bool])) N tab24 4) (encKs ([KQ.any K.u8, KQ.any K.fr5, KQ.any K.fr, KQ.any K.fr, KQ.any K.fr, KQ.any K.bool].map KQ.k) x) = p24 N x.1 x.2.1 x.2.2.1 x.2.2.2.1 x.2.2.2.2.1 x.2.2.2.2.2.1 := by kernel_rfl
set_option maxRecDepth 100000 in
theorem lifted (os : Os) (started : os.Started) (H : Type) (enc : TypeId × Value → H) :
    ReturnsInHanded {} Try.checked os 24 .any (Rows.gateHoldsSpec.pre6 enc Try.prog Try.f24 Rows.gateHoldsRow.domain false) (Rows.gateHoldsSpec.post enc Try.prog Try.f24 false true false false) := by
  refine returnsInHanded_of_change (C := Try.checked) own started (by kernel_rfl) Try.func24
    (ChangeSpec.witness6 (enc := enc) (C := Try.checked) false ⟨#[], #[.int .u8 0, .agg #[.int .u64 0, .int .u64 0, .int .u64 0, .int .u64 0, .int .u64 0, .int .u64 0, .int .u64 0, .int .u64 0, .int .u64 0, .int .u64 0, .int .u64 0, .int .u64 0, .int .u64 0, .int .u64 0, .int .u64 0, .int .u64 0, .int .u64 0, .int .u64 0, .int .u64 0, .int .u64 0], .agg #[.int .u64 0, .int .u64 0, .int .u64 0, .int .u64 0], .agg #[.int .u64 0, .int .u64 0, .int .u64 0, .int .u64 0], .agg #[.int .u64 0, .int .u64 0, .int .u64 0, .int .u64 0], .bool false], []⟩ 8 (by kernel_rfl) (by kernel_rfl) (by kernel_rfl) (by kernel_rfl)) ?_
  intro W base args ds gs before hval hW hcnd _
  have hW' := hW
  obtain ⟨p, q, hA, hV, _⟩ := hW'
  have hp : Try.f24.params.toList = [5, 109, 53, 53, 53, 4] := rfl
  have hlen := trodAll_len hA
  rw [hp] at hlen
  have hA' : DataW.TrodAll enc Try.prog W 0 (fun _ => true) true Try.f24.params.toList args.toList ds p := hA
  obtain ⟨x, hq, hx⟩ := opens_argsQ (base := base) (ks := [KQ.any K.u8, KQ.any K.fr5, KQ.any K.fr, KQ.any K.fr, KQ.any K.fr, KQ.any K.bool]) (ts := Try.f24.params.toList) ⟨oq5, oq109', oq53, oq53, oq53, oq4, trivial⟩ hA' (fun j t v hj hw => hval j t v (by rw [← Array.getElem?_toList]; exact hj) (by rw [← Array.getElem?_toList]; exact hw))
  obtain ⟨d0, d1, d2, d3, d4, d5, rfl⟩ : ∃ d0 d1 d2 d3 d4 d5, ds = [d0, d1, d2, d3, d4, d5] := by
    match ds, hlen with
    | [d0, d1, d2, d3, d4, d5], _ => exact ⟨_, _, _, _, _, _, rfl⟩
  have hcall := sgK_calls1 pd_ok (env_look (env24_ok 2000)) Try.func24 (name_ne (by kernel_rfl)) ([KQ.any K.u8, KQ.any K.fr5, KQ.any K.fr, KQ.any K.fr, KQ.any K.fr, KQ.any K.bool].map KQ.k) (fun x => p24 2000 x.1 x.2.1 x.2.2.1 x.2.2.2.1 x.2.2.2.2.1 x.2.2.2.2.2.1) 2000 tab24 4 (runs 2000)
    x (by rw [p24_t]; exact gate_holds_plain _ _ _ _ _ _) W args.toList (fun b => b < W.heap.size) (fun _ h => h) hx
  rw [Array.toArray_toList] at hcall
  refine hcall.mono fun e W' ⟨he, hk⟩ => ⟨.bool true, he, ?_⟩
  exact law_post laid (by decide +kernel) rfl (tb := 4) rfl Try.underlying4 rfl hW hk
theorem named : Try.pinned.checked.prog.funcNamed Rows.gateHoldsRow.func = some 24 := by kernel_rfl
theorem c3 : (Try.f24.params.all fun x => Try.pinned.checked.prog.readableRec x) = true := by kernel_rfl
theorem c9 : (Rows.gateHoldsRow.inPlace == Try.pinned.checked.prog.inPlace 24) = true := by kernel_rfl
theorem c10 : (Rows.gateHoldsRow.unfollowed == Try.pinned.checked.prog.unfollowed 24) = true := by kernel_rfl
theorem c11 : (Rows.gateHoldsRow.recurses == Try.pinned.checked.prog.recurses 24) = true := by kernel_rfl
theorem c12 : (Rows.gateHoldsRow.named == Try.pinned.checked.prog.varsNamed 24) = true := by kernel_rfl
theorem c26 : (Rows.gateHoldsRow.lifted == Try.pinned.checked.prog.liftsFinal) = true := by
  have h : Try.pinned.checked.prog.liftsFinal = false := lifts_final
  rw [h]; rfl
theorem c27 : (Try.pinned.checked.prog.make == some Rows.gateHoldsRow.make) = true := by
  have h : Try.pinned.checked.prog.make = some .cut := make_is
  rw [h]; rfl
set_option maxRecDepth 100000 in
theorem closed : joinedFacts Try.pinned.checked.prog 24 Try.f24 Rows.gateHoldsSpec Rows.gateHoldsRow = true := by
  unfold joinedFacts
  repeat' (with_reducible apply both)
  all_goals first
    | with_reducible exact laid
    | with_reducible exact rowed
    | with_reducible exact c3
    | with_reducible exact c9
    | with_reducible exact c10
    | with_reducible exact c11
    | with_reducible exact c12
    | with_reducible exact may_enter'
    | with_reducible exact c26
    | with_reducible exact c27
    | with_reducible exact heard
    | (as_aux_lemma => kernel_rfl)
theorem inst : Try.f24.isInstance Try.pinned.checked.prog Rows.gateHoldsRow.origin Rows.gateHoldsRow.targs := (of_decide_eq_true (by kernel_rfl))
theorem wrapper : Try.f24.isWrapper Try.pinned.checked.prog Rows.gateHoldsRow.wrapper Rows.gateHoldsRow.mainSum := by
  unfold Func.isWrapper
  first | (rw [if_pos (by decide +kernel)]; kernel_rfl) | (rw [if_neg (by decide +kernel)]; exact ⟨rfl, rfl⟩)
theorem over : Rows.gateHoldsRow.holds Try.pinned (OpenSpec.ofChange Rows.gateHoldsSpec) :=
  OpenClaim.holds_of_wide 24 Try.f24 rfl rfl rfl rfl rfl rfl rfl ⟨rfl, rfl, rfl, rfl, rfl⟩ rfl rfl rfl rfl rfl named Try.func24 closed inst wrapper
    (fun os started H enc _ => lifted os started H enc)
end Go.Proofs.Ytgimohchocjgcaa.V.gateHolds
namespace Go.Proofs.Ytgimohchocjgcaa
theorem gateHolds_holds : Rows.GateHoldsSaid := V.gateHolds.over
#print axioms gateHolds_holds
end Go.Proofs.Ytgimohchocjgcaa
