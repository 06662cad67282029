import Derived.Test.YtgimohchocjgcaaVRW
import Derived.Test.YtgimohchocjgcaaVWA3
import Derived.Test.YtgimohchocjgcaaVOS
set_option linter.unusedVariables false
set_option linter.unusedSimpArgs false
namespace Go.Proofs.Ytgimohchocjgcaa.V.wireNames
open Go.ChangeShapes Go.WideShapes Go.ChangeAt Go.RowKit
set_option maxRecDepth 100000 in
theorem runs (N : Nat) (x : TKs ([KQ.any K.int, KQ.any K.int, KQ.any K.int].map KQ.k)) : runFn pd (fun f => look f (env34 N)) Try.f34 (decUs [K.bool]) (mkLp pd (fun f => look f (env34 N)) (finish pd Try.f34 (decUs [K.bool])) N tab34 4) (encKs ([KQ.any K.int, KQ.any K.int, KQ.any K.int].map KQ.k) x) = p34 N x.1 x.2.1 x.2.2.1 := by kernel_rfl
set_option maxRecDepth 100000 in
theorem lifted (os : Os) (started : os.Started) (H : Type) (enc : TypeId × Value → H) :
    ReturnsInHanded {} Try.checked os 34 .any (Rows.wireNamesSpec.pre6 enc Try.prog Try.f34 Rows.wireNamesRow.domain false) (Rows.wireNamesSpec.post enc Try.prog Try.f34 false true false false) := by
  refine returnsInHanded_of_change (C := Try.checked) own started (by kernel_rfl) Try.func34
    (ChangeSpec.witness6 (enc := enc) (C := Try.checked) false ⟨#[], #[.int .i64 0, .int .i64 0, .int .i64 0], []⟩ 8 (by kernel_rfl) (by kernel_rfl) (by kernel_rfl) (by kernel_rfl)) ?_
  intro W base args ds gs before hval hW hcnd _
  have hW' := hW
  obtain ⟨p, q, hA, hV, _⟩ := hW'
  have hp : Try.f34.params.toList = [3, 3, 3] := rfl
  have hlen := trodAll_len hA
  rw [hp] at hlen
  have hA' : DataW.TrodAll enc Try.prog W 0 (fun _ => true) true Try.f34.params.toList args.toList ds p := hA
  obtain ⟨x, hq, hx⟩ := opens_argsQ (base := base) (ks := [KQ.any K.int, KQ.any K.int, KQ.any K.int]) (ts := Try.f34.params.toList) ⟨oq3, oq3, oq3, trivial⟩ hA' (fun j t v hj hw => hval j t v (by rw [← Array.getElem?_toList]; exact hj) (by rw [← Array.getElem?_toList]; exact hw))
  obtain ⟨d0, d1, d2, rfl⟩ : ∃ d0 d1 d2, ds = [d0, d1, d2] := by
    match ds, hlen with
    | [d0, d1, d2], _ => exact ⟨_, _, _, rfl⟩
  have hcall := sgK_calls1 pd_ok (env_look (env34_ok 2000)) Try.func34 (name_ne (by kernel_rfl)) ([KQ.any K.int, KQ.any K.int, KQ.any K.int].map KQ.k) (fun x => p34 2000 x.1 x.2.1 x.2.2.1) 2000 tab34 4 (runs 2000)
    x (by rw [p34_t]; exact wire_names_plain _ _ _) W args.toList (fun b => b < W.heap.size) (fun _ h => h) hx
  rw [Array.toArray_toList] at hcall
  refine hcall.mono fun e W' ⟨he, hk⟩ => ⟨.bool true, he, ?_⟩
  exact law_post laid (by decide +kernel) rfl (tb := 4) rfl Try.underlying4 rfl hW hk
theorem named : Try.pinned.checked.prog.funcNamed Rows.wireNamesRow.func = some 34 := by kernel_rfl
theorem c3 : (Try.f34.params.all fun x => Try.pinned.checked.prog.readableRec x) = true := by kernel_rfl
theorem c9 : (Rows.wireNamesRow.inPlace == Try.pinned.checked.prog.inPlace 34) = true := by kernel_rfl
theorem c10 : (Rows.wireNamesRow.unfollowed == Try.pinned.checked.prog.unfollowed 34) = true := by kernel_rfl
theorem c11 : (Rows.wireNamesRow.recurses == Try.pinned.checked.prog.recurses 34) = true := by kernel_rfl
theorem c12 : (Rows.wireNamesRow.named == Try.pinned.checked.prog.varsNamed 34) = true := by kernel_rfl
theorem c26 : (Rows.wireNamesRow.lifted == Try.pinned.checked.prog.liftsFinal) = true := by
  have h : Try.pinned.checked.prog.liftsFinal = false := lifts_final
  rw [h]; rfl
theorem c27 : (Try.pinned.checked.prog.make == some Rows.wireNamesRow.make) = true := by
  have h : Try.pinned.checked.prog.make = some .cut := make_is
  rw [h]; rfl
set_option maxRecDepth 100000 in
theorem closed : joinedFacts Try.pinned.checked.prog 34 Try.f34 Rows.wireNamesSpec Rows.wireNamesRow = true := by
  unfold joinedFacts
  repeat' (with_reducible apply both)
  all_goals first
    | with_reducible exact laid
    | with_reducible exact rowed
    | with_reducible exact c3
    | with_reducible exact c9
    | with_reducible exact c10
    | with_reducible exact c11
    | with_reducible exact c12
    | with_reducible exact may_enter'
    | with_reducible exact c26
    | with_reducible exact c27
    | with_reducible exact heard
    | (as_aux_lemma => kernel_rfl)
theorem inst : Try.f34.isInstance Try.pinned.checked.prog Rows.wireNamesRow.origin Rows.wireNamesRow.targs := (of_decide_eq_true (by kernel_rfl))
theorem wrapper : Try.f34.isWrapper Try.pinned.checked.prog Rows.wireNamesRow.wrapper Rows.wireNamesRow.mainSum := by
  unfold Func.isWrapper
  first | (rw [if_pos (by decide +kernel)]; kernel_rfl) | (rw [if_neg (by decide +kernel)]; exact ⟨rfl, rfl⟩)
theorem over : Rows.wireNamesRow.holds Try.pinned (OpenSpec.ofChange Rows.wireNamesSpec) :=
  OpenClaim.holds_of_wide 34 Try.f34 rfl rfl rfl rfl rfl rfl rfl ⟨rfl, rfl, rfl, rfl, rfl⟩ rfl rfl rfl rfl rfl named Try.func34 closed inst wrapper
    (fun os started H enc _ => lifted os started H enc)
end Go.Proofs.Ytgimohchocjgcaa.V.wireNames
namespace Go.Proofs.Ytgimohchocjgcaa
theorem wireNames_holds : Rows.WireNamesSaid := V.wireNames.over
#print axioms wireNames_holds
end Go.Proofs.Ytgimohchocjgcaa
