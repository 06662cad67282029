/- The statement LimbRests: whatever the two numbers are, the law answers true, and its arguments read as they did. No condition. -/
import Derived.Test.YtgimohchocjgcaaVRW
import Derived.Test.YtgimohchocjgcaaVLS
import Derived.Test.YtgimohchocjgcaaVOP
set_option linter.unusedVariables false
set_option linter.unusedSimpArgs false
namespace Go.Proofs.Ytgimohchocjgcaa.V.limbRests
open Go.ChangeShapes Go.WideShapes Go.ChangeAt Go.RowKit

set_option maxRecDepth 100000 in
theorem lifted (os : Os) (started : os.Started) (H : Type) (enc : TypeId × Value → H) :
    ReturnsInHanded {} Try.checked os 6 .any (Rows.limbRestsSpec.pre6 enc Try.prog Try.f6 Rows.limbRestsRow.domain false) (Rows.limbRestsSpec.post enc Try.prog Try.f6 false true false false) := by
  refine returnsInHanded_of_change (C := Try.checked) own started (by kernel_rfl) Try.func6
    (ChangeSpec.witness6 (enc := enc) (C := Try.checked) false ⟨#[], #[.slice none 0 0, .slice none 0 0], []⟩ 8 (by kernel_rfl) (by kernel_rfl) (by kernel_rfl) (by kernel_rfl)) ?_
  intro W base args ds gs before hval hW hcnd _
  have hW' := hW
  obtain ⟨p, q, hA, hV, _⟩ := hW'
  have hp : Try.f6.params.toList = [37, 37] := rfl
  have hlen := trodAll_len hA
  rw [hp] at hlen
  have hA' : DataW.TrodAll enc Try.prog W 0 (fun _ => true) true Try.f6.params.toList args.toList ds p := hA
  obtain ⟨x, hx⟩ := opens_args (base := base) (ks := [K.ro .u64, K.ro .u64]) (ts := Try.f6.params.toList) ⟨opens37, opens37, trivial⟩ hA' (fun j t v hj hw => hval j t v (by rw [← Array.getElem?_toList]; exact hj) (by rw [← Array.getElem?_toList]; exact hw))
  obtain ⟨d0, d1, rfl⟩ : ∃ d0 d1, ds = [d0, d1] := by
    match ds, hlen with
    | [d0, d1], _ => exact ⟨_, _, rfl⟩
  have hcall := sgK_calls pd_ok (env_look (env6_ok 2000)) Try.func6 (name_ne (by kernel_rfl)) [K.ro .u64, K.ro .u64] (fun x => p6 2000 x.1 x.2.1) 2000 tab6 4 (fun x => by kernel_rfl)
    (fun x => by rw [p6_t]; exact rests_plain _ _) x W args.toList (fun b => b < W.heap.size) (fun _ h => h) hx
  rw [Array.toArray_toList] at hcall
  refine hcall.mono fun e W' ⟨he, hk⟩ => ⟨.bool true, he, ?_⟩
  exact law_post laid (by decide +kernel) rfl (tb := 4) rfl Try.underlying4 rfl hW hk

theorem named : Try.pinned.checked.prog.funcNamed Rows.limbRestsRow.func = some 6 := by kernel_rfl
theorem c3 : (Try.f6.params.all fun x => Try.pinned.checked.prog.readableRec x) = true := by kernel_rfl
theorem c9 : (Rows.limbRestsRow.inPlace == Try.pinned.checked.prog.inPlace 6) = true := by kernel_rfl
theorem c10 : (Rows.limbRestsRow.unfollowed == Try.pinned.checked.prog.unfollowed 6) = true := by kernel_rfl
theorem c11 : (Rows.limbRestsRow.recurses == Try.pinned.checked.prog.recurses 6) = true := by kernel_rfl
theorem c12 : (Rows.limbRestsRow.named == Try.pinned.checked.prog.varsNamed 6) = true := by kernel_rfl
theorem c26 : (Rows.limbRestsRow.lifted == Try.pinned.checked.prog.liftsFinal) = true := by
  have h : Try.pinned.checked.prog.liftsFinal = false := lifts_final
  rw [h]; rfl
theorem c27 : (Try.pinned.checked.prog.make == some Rows.limbRestsRow.make) = true := by
  have h : Try.pinned.checked.prog.make = some .cut := make_is
  rw [h]; rfl

set_option maxRecDepth 100000 in
theorem closed : joinedFacts Try.pinned.checked.prog 6 Try.f6 Rows.limbRestsSpec Rows.limbRestsRow = true := by
  unfold joinedFacts
  repeat' (with_reducible apply both)
  all_goals first
    | with_reducible exact laid
    | with_reducible exact rowed
    | with_reducible exact c3
    | with_reducible exact c9
    | with_reducible exact c10
    | with_reducible exact c11
    | with_reducible exact c12
    | with_reducible exact may_enter'
    | with_reducible exact c26
    | with_reducible exact c27
    | with_reducible exact heard
    | (as_aux_lemma => kernel_rfl)

theorem inst : Try.f6.isInstance Try.pinned.checked.prog Rows.limbRestsRow.origin Rows.limbRestsRow.targs := (of_decide_eq_true (by kernel_rfl))

theorem wrapper : Try.f6.isWrapper Try.pinned.checked.prog Rows.limbRestsRow.wrapper Rows.limbRestsRow.mainSum := by
  unfold Func.isWrapper
  first | (rw [if_pos (by decide +kernel)]; kernel_rfl) | (rw [if_neg (by decide +kernel)]; exact ⟨rfl, rfl⟩)

theorem over : Rows.limbRestsRow.holds Try.pinned (OpenSpec.ofChange Rows.limbRestsSpec) :=
  OpenClaim.holds_of_wide 6 Try.f6 rfl rfl rfl rfl rfl rfl rfl ⟨rfl, rfl, rfl, rfl, rfl⟩ rfl rfl rfl rfl rfl named Try.func6 closed inst wrapper
    (fun os started H enc _ => lifted os started H enc)

end Go.Proofs.Ytgimohchocjgcaa.V.limbRests
namespace Go.Proofs.Ytgimohchocjgcaa

/-- The statement. -/
theorem limbRests_holds : Rows.LimbRestsSaid := V.limbRests.over

#print axioms limbRests_holds
end Go.Proofs.Ytgimohchocjgcaa
