/- The statement ShaPads: whatever the bytes are, the law answers true, and its argument reads as it did. No condition. -/
import Derived.Test.YtgimohchocjgcaaVRW
import Derived.Test.YtgimohchocjgcaaVSQ
import Derived.Test.YtgimohchocjgcaaVOP
set_option linter.unusedVariables false
set_option linter.unusedSimpArgs false
namespace Go.Proofs.Ytgimohchocjgcaa.V.shaPads
open Go.ChangeShapes Go.WideShapes Go.ChangeAt Go.RowKit

theorem runs (N : Nat) (x : TKs [K.ro .u8]) : runFn pd (fun f => look f (env5 N)) Try.f5 (decUs [K.bool]) (mkLp pd (fun f => look f (env5 N)) (finish pd Try.f5 (decUs [K.bool])) N tab5 4) (encKs [K.ro .u8] x) = p5 N x.1 := by kernel_rfl

theorem calls (x : TKs [K.ro .u8]) (W : World) (vs : List Value) (hx : HoldsUs W (fun b => b < W.heap.size) (encKs [K.ro .u8] x) vs) : Calls Try.prog 5 vs.toArray W fun e w' => e = .returned (.bool true) ∧ Kept W w' :=
  sgK_calls pd_ok (env_look (env5_ok 2000)) Try.func5 (name_ne (by kernel_rfl)) [K.ro .u8] (fun x => p5 2000 x.1) 2000 tab5 4 (runs 2000) (fun x => by rw [p5_t]; exact pads_plain _) x W vs (fun b => b < W.heap.size) (fun _ h => h) hx

set_option maxRecDepth 100000 in
theorem lifted (os : Os) (started : os.Started) (H : Type) (enc : TypeId × Value → H) :
    ReturnsInHanded {} Try.checked os 5 .any (Rows.shaPadsSpec.pre6 enc Try.prog Try.f5 Rows.shaPadsRow.domain false) (Rows.shaPadsSpec.post enc Try.prog Try.f5 false true false false) := by
  refine returnsInHanded_of_change (C := Try.checked) own started (by kernel_rfl) Try.func5
    (ChangeSpec.witness6 (enc := enc) (C := Try.checked) false ⟨#[], #[.slice none 0 0], []⟩ 8 (by kernel_rfl) (by kernel_rfl) (by kernel_rfl) (by kernel_rfl)) ?_
  intro W base args ds gs before hval hW hcnd _
  have hW' := hW
  obtain ⟨p, q, hA, hV, _⟩ := hW'
  have hp : Try.f5.params.toList = [24] := rfl
  have hlen := trodAll_len hA
  rw [hp] at hlen
  have hA' : DataW.TrodAll enc Try.prog W 0 (fun _ => true) true Try.f5.params.toList args.toList ds p := hA
  obtain ⟨x, hx⟩ := opens_args (base := base) (ks := [K.ro .u8]) (ts := Try.f5.params.toList) ⟨opens24, trivial⟩ hA' (fun j t v hj hw => hval j t v (by rw [← Array.getElem?_toList]; exact hj) (by rw [← Array.getElem?_toList]; exact hw))
  obtain ⟨d0, rfl⟩ : ∃ d0, ds = [d0] := by
    match ds, hlen with
    | [d0], _ => exact ⟨_, rfl⟩
  have hcall := calls x W args.toList hx
  rw [Array.toArray_toList] at hcall
  refine hcall.mono fun e W' ⟨he, hk⟩ => ⟨.bool true, he, ?_⟩
  exact law_post laid (by decide +kernel) rfl (tb := 4) rfl Try.underlying4 rfl hW hk

theorem named : Try.pinned.checked.prog.funcNamed Rows.shaPadsRow.func = some 5 := by kernel_rfl
theorem c3 : (Try.f5.params.all fun x => Try.pinned.checked.prog.readableRec x) = true := by kernel_rfl
theorem c9 : (Rows.shaPadsRow.inPlace == Try.pinned.checked.prog.inPlace 5) = true := by kernel_rfl
theorem c10 : (Rows.shaPadsRow.unfollowed == Try.pinned.checked.prog.unfollowed 5) = true := by kernel_rfl
theorem c11 : (Rows.shaPadsRow.recurses == Try.pinned.checked.prog.recurses 5) = true := by kernel_rfl
theorem c12 : (Rows.shaPadsRow.named == Try.pinned.checked.prog.varsNamed 5) = true := by kernel_rfl
theorem c26 : (Rows.shaPadsRow.lifted == Try.pinned.checked.prog.liftsFinal) = true := by
  have h : Try.pinned.checked.prog.liftsFinal = false := lifts_final
  rw [h]; rfl
theorem c27 : (Try.pinned.checked.prog.make == some Rows.shaPadsRow.make) = true := by
  have h : Try.pinned.checked.prog.make = some .cut := make_is
  rw [h]; rfl

set_option maxRecDepth 100000 in
theorem closed : joinedFacts Try.pinned.checked.prog 5 Try.f5 Rows.shaPadsSpec Rows.shaPadsRow = true := by
  unfold joinedFacts
  repeat' (with_reducible apply both)
  all_goals first
    | with_reducible exact laid
    | with_reducible exact rowed
    | with_reducible exact c3
    | with_reducible exact c9
    | with_reducible exact c10
    | with_reducible exact c11
    | with_reducible exact c12
    | with_reducible exact may_enter'
    | with_reducible exact c26
    | with_reducible exact c27
    | with_reducible exact heard
    | (as_aux_lemma => kernel_rfl)

theorem inst : Try.f5.isInstance Try.pinned.checked.prog Rows.shaPadsRow.origin Rows.shaPadsRow.targs := (of_decide_eq_true (by kernel_rfl))

theorem wrapper : Try.f5.isWrapper Try.pinned.checked.prog Rows.shaPadsRow.wrapper Rows.shaPadsRow.mainSum := by
  unfold Func.isWrapper
  first | (rw [if_pos (by decide +kernel)]; kernel_rfl) | (rw [if_neg (by decide +kernel)]; exact ⟨rfl, rfl⟩)

theorem over : Rows.shaPadsRow.holds Try.pinned (OpenSpec.ofChange Rows.shaPadsSpec) :=
  OpenClaim.holds_of_wide 5 Try.f5 rfl rfl rfl rfl rfl rfl rfl ⟨rfl, rfl, rfl, rfl, rfl⟩ rfl rfl rfl rfl rfl named Try.func5 closed inst wrapper
    (fun os started H enc _ => lifted os started H enc)

end Go.Proofs.Ytgimohchocjgcaa.V.shaPads
namespace Go.Proofs.Ytgimohchocjgcaa

/-- The statement. -/
theorem shaPads_holds : Rows.ShaPadsSaid := V.shaPads.over

#print axioms shaPads_holds
end Go.Proofs.Ytgimohchocjgcaa
