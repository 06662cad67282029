/- The statement LimbAll: whatever the two numbers are, the law answers true, and its arguments read as they did. No condition. -/
import Derived.Test.YtgimohchocjgcaaVRW
import Derived.Test.YtgimohchocjgcaaVLT
import Derived.Test.YtgimohchocjgcaaVOP
set_option linter.unusedVariables false
set_option linter.unusedSimpArgs false
namespace Go.Proofs.Ytgimohchocjgcaa.V.limbAll
open Go.ChangeShapes Go.WideShapes Go.ChangeAt Go.RowKit

theorem runs (N : Nat) (x : TKs [K.ro .u64, K.ro .u64]) : runFn pd (fun f => look f (env10 N)) Try.f10 (decUs [K.bool]) (mkLp pd (fun f => look f (env10 N)) (finish pd Try.f10 (decUs [K.bool])) N tab10 4) (encKs [K.ro .u64, K.ro .u64] x) = p10 N x.1 x.2.1 := by kernel_rfl

theorem calls (x : TKs [K.ro .u64, K.ro .u64]) (W : World) (vs : List Value) (hx : HoldsUs W (fun b => b < W.heap.size) (encKs [K.ro .u64, K.ro .u64] x) vs) : Calls Try.prog 10 vs.toArray W fun e w' => e = .returned (.bool true) ∧ Kept W w' :=
  sgK_calls pd_ok (env_look (env10_ok 2000)) Try.func10 (name_ne (by kernel_rfl)) [K.ro .u64, K.ro .u64] (fun x => p10 2000 x.1 x.2.1) 2000 tab10 4 (runs 2000) (fun x => by rw [p10_t]; exact all_plain _ _) x W vs (fun b => b < W.heap.size) (fun _ h => h) hx

set_option maxRecDepth 100000 in
theorem lifted (os : Os) (started : os.Started) (H : Type) (enc : TypeId × Value → H) :
    ReturnsInHanded {} Try.checked os 10 .any (Rows.limbAllSpec.pre6 enc Try.prog Try.f10 Rows.limbAllRow.domain false) (Rows.limbAllSpec.post enc Try.prog Try.f10 false true false false) := by
  refine returnsInHanded_of_change (C := Try.checked) own started (by kernel_rfl) Try.func10
    (ChangeSpec.witness6 (enc := enc) (C := Try.checked) false ⟨#[], #[.slice none 0 0, .slice none 0 0], []⟩ 8 (by kernel_rfl) (by kernel_rfl) (by kernel_rfl) (by kernel_rfl)) ?_
  intro W base args ds gs before hval hW hcnd _
  have hW' := hW
  obtain ⟨p, q, hA, hV, _⟩ := hW'
  have hp : Try.f10.params.toList = [37, 37] := rfl
  have hlen := trodAll_len hA
  rw [hp] at hlen
  have hA' : DataW.TrodAll enc Try.prog W 0 (fun _ => true) true Try.f10.params.toList args.toList ds p := hA
  obtain ⟨x, hx⟩ := opens_args (base := base) (ks := [K.ro .u64, K.ro .u64]) (ts := Try.f10.params.toList) ⟨opens37, opens37, trivial⟩ hA' (fun j t v hj hw => hval j t v (by rw [← Array.getElem?_toList]; exact hj) (by rw [← Array.getElem?_toList]; exact hw))
  obtain ⟨d0, d1, rfl⟩ : ∃ d0 d1, ds = [d0, d1] := by
    match ds, hlen with
    | [d0, d1], _ => exact ⟨_, _, rfl⟩
  have hcall := calls x W args.toList hx
  rw [Array.toArray_toList] at hcall
  refine hcall.mono fun e W' ⟨he, hk⟩ => ⟨.bool true, he, ?_⟩
  exact law_post laid (by decide +kernel) rfl (tb := 4) rfl Try.underlying4 rfl hW hk

theorem named : Try.pinned.checked.prog.funcNamed Rows.limbAllRow.func = some 10 := by kernel_rfl
theorem c3 : (Try.f10.params.all fun x => Try.pinned.checked.prog.readableRec x) = true := by kernel_rfl
theorem c9 : (Rows.limbAllRow.inPlace == Try.pinned.checked.prog.inPlace 10) = true := by kernel_rfl
theorem c10 : (Rows.limbAllRow.unfollowed == Try.pinned.checked.prog.unfollowed 10) = true := by kernel_rfl
theorem c11 : (Rows.limbAllRow.recurses == Try.pinned.checked.prog.recurses 10) = true := by kernel_rfl
theorem c12 : (Rows.limbAllRow.named == Try.pinned.checked.prog.varsNamed 10) = true := by kernel_rfl
theorem c26 : (Rows.limbAllRow.lifted == Try.pinned.checked.prog.liftsFinal) = true := by
  have h : Try.pinned.checked.prog.liftsFinal = false := lifts_final
  rw [h]; rfl
theorem c27 : (Try.pinned.checked.prog.make == some Rows.limbAllRow.make) = true := by
  have h : Try.pinned.checked.prog.make = some .cut := make_is
  rw [h]; rfl

set_option maxRecDepth 100000 in
theorem closed : joinedFacts Try.pinned.checked.prog 10 Try.f10 Rows.limbAllSpec Rows.limbAllRow = true := by
  unfold joinedFacts
  repeat' (with_reducible apply both)
  all_goals first
    | with_reducible exact laid
    | with_reducible exact rowed
    | with_reducible exact c3
    | with_reducible exact c9
    | with_reducible exact c10
    | with_reducible exact c11
    | with_reducible exact c12
    | with_reducible exact may_enter'
    | with_reducible exact c26
    | with_reducible exact c27
    | with_reducible exact heard
    | (as_aux_lemma => kernel_rfl)

theorem inst : Try.f10.isInstance Try.pinned.checked.prog Rows.limbAllRow.origin Rows.limbAllRow.targs := (of_decide_eq_true (by kernel_rfl))

theorem wrapper : Try.f10.isWrapper Try.pinned.checked.prog Rows.limbAllRow.wrapper Rows.limbAllRow.mainSum := by
  unfold Func.isWrapper
  first | (rw [if_pos (by decide +kernel)]; kernel_rfl) | (rw [if_neg (by decide +kernel)]; exact ⟨rfl, rfl⟩)

theorem over : Rows.limbAllRow.holds Try.pinned (OpenSpec.ofChange Rows.limbAllSpec) :=
  OpenClaim.holds_of_wide 10 Try.f10 rfl rfl rfl rfl rfl rfl rfl ⟨rfl, rfl, rfl, rfl, rfl⟩ rfl rfl rfl rfl rfl named Try.func10 closed inst wrapper
    (fun os started H enc _ => lifted os started H enc)

end Go.Proofs.Ytgimohchocjgcaa.V.limbAll
namespace Go.Proofs.Ytgimohchocjgcaa

/-- The statement. -/
theorem limbAll_holds : Rows.LimbAllSaid := V.limbAll.over

#print axioms limbAll_holds
end Go.Proofs.Ytgimohchocjgcaa
