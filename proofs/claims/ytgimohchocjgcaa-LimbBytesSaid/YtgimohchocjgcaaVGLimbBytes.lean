/- The statement LimbBytes: whatever the number, the length and the bytes are, the law answers true, and its arguments read as they did. No condition. -/
import Derived.Test.YtgimohchocjgcaaVRW
import Derived.Test.YtgimohchocjgcaaVLU
import Derived.Test.YtgimohchocjgcaaVOP
set_option linter.unusedVariables false
set_option linter.unusedSimpArgs false
namespace Go.Proofs.Ytgimohchocjgcaa.V.limbBytes
open Go.ChangeShapes Go.WideShapes Go.ChangeAt Go.RowKit

set_option maxRecDepth 100000 in
theorem lifted (os : Os) (started : os.Started) (H : Type) (enc : TypeId × Value → H) :
    ReturnsInHanded {} Try.checked os 8 .any (Rows.limbBytesSpec.pre6 enc Try.prog Try.f8 Rows.limbBytesRow.domain false) (Rows.limbBytesSpec.post enc Try.prog Try.f8 false true false false) := by
  refine returnsInHanded_of_change (C := Try.checked) own started (by kernel_rfl) Try.func8
    (ChangeSpec.witness6 (enc := enc) (C := Try.checked) false ⟨#[], #[.slice none 0 0, .int .i64 0, .slice none 0 0], []⟩ 8 (by kernel_rfl) (by kernel_rfl) (by kernel_rfl) (by kernel_rfl)) ?_
  intro W base args ds gs before hval hW hcnd _
  have hW' := hW
  obtain ⟨p, q, hA, hV, _⟩ := hW'
  have hp : Try.f8.params.toList = [37, 3, 24] := rfl
  have hlen := trodAll_len hA
  rw [hp] at hlen
  have hA' : DataW.TrodAll enc Try.prog W 0 (fun _ => true) true Try.f8.params.toList args.toList ds p := hA
  obtain ⟨x, hx⟩ := opens_args (base := base) (ks := [K.ro .u64, K.int, K.ro .u8]) (ts := Try.f8.params.toList) ⟨opens37, opens3, opens24, trivial⟩ hA' (fun j t v hj hw => hval j t v (by rw [← Array.getElem?_toList]; exact hj) (by rw [← Array.getElem?_toList]; exact hw))
  obtain ⟨d0, d1, d2, rfl⟩ : ∃ d0 d1 d2, ds = [d0, d1, d2] := by
    match ds, hlen with
    | [d0, d1, d2], _ => exact ⟨_, _, _, rfl⟩
  have hcall := sgK_calls pd_ok (env_look (env8_ok 2000)) Try.func8 (name_ne (by kernel_rfl)) [K.ro .u64, K.int, K.ro .u8] (fun x => p8 2000 x.1 x.2.1 x.2.2.1) 2000 tab8 4 (fun x => by kernel_rfl)
    (fun x => by rw [p8_t]; exact bytes_plain _ _ _) x W args.toList (fun b => b < W.heap.size) (fun _ h => h) hx
  rw [Array.toArray_toList] at hcall
  refine hcall.mono fun e W' ⟨he, hk⟩ => ⟨.bool true, he, ?_⟩
  exact law_post laid (by decide +kernel) rfl (tb := 4) rfl Try.underlying4 rfl hW hk

theorem named : Try.pinned.checked.prog.funcNamed Rows.limbBytesRow.func = some 8 := by kernel_rfl
theorem c3 : (Try.f8.params.all fun x => Try.pinned.checked.prog.readableRec x) = true := by kernel_rfl
theorem c9 : (Rows.limbBytesRow.inPlace == Try.pinned.checked.prog.inPlace 8) = true := by kernel_rfl
theorem c10 : (Rows.limbBytesRow.unfollowed == Try.pinned.checked.prog.unfollowed 8) = true := by kernel_rfl
theorem c11 : (Rows.limbBytesRow.recurses == Try.pinned.checked.prog.recurses 8) = true := by kernel_rfl
theorem c12 : (Rows.limbBytesRow.named == Try.pinned.checked.prog.varsNamed 8) = true := by kernel_rfl
theorem c26 : (Rows.limbBytesRow.lifted == Try.pinned.checked.prog.liftsFinal) = true := by
  have h : Try.pinned.checked.prog.liftsFinal = false := lifts_final
  rw [h]; rfl
theorem c27 : (Try.pinned.checked.prog.make == some Rows.limbBytesRow.make) = true := by
  have h : Try.pinned.checked.prog.make = some .cut := make_is
  rw [h]; rfl

set_option maxRecDepth 100000 in
theorem closed : joinedFacts Try.pinned.checked.prog 8 Try.f8 Rows.limbBytesSpec Rows.limbBytesRow = true := by
  unfold joinedFacts
  repeat' (with_reducible apply both)
  all_goals first
    | with_reducible exact laid
    | with_reducible exact rowed
    | with_reducible exact c3
    | with_reducible exact c9
    | with_reducible exact c10
    | with_reducible exact c11
    | with_reducible exact c12
    | with_reducible exact may_enter'
    | with_reducible exact c26
    | with_reducible exact c27
    | with_reducible exact heard
    | (as_aux_lemma => kernel_rfl)

theorem inst : Try.f8.isInstance Try.pinned.checked.prog Rows.limbBytesRow.origin Rows.limbBytesRow.targs := (of_decide_eq_true (by kernel_rfl))

theorem wrapper : Try.f8.isWrapper Try.pinned.checked.prog Rows.limbBytesRow.wrapper Rows.limbBytesRow.mainSum := by
  unfold Func.isWrapper
  first | (rw [if_pos (by decide +kernel)]; kernel_rfl) | (rw [if_neg (by decide +kernel)]; exact ⟨rfl, rfl⟩)

theorem over : Rows.limbBytesRow.holds Try.pinned (OpenSpec.ofChange Rows.limbBytesSpec) :=
  OpenClaim.holds_of_wide 8 Try.f8 rfl rfl rfl rfl rfl rfl rfl ⟨rfl, rfl, rfl, rfl, rfl⟩ rfl rfl rfl rfl rfl named Try.func8 closed inst wrapper
    (fun os started H enc _ => lifted os started H enc)

end Go.Proofs.Ytgimohchocjgcaa.V.limbBytes
namespace Go.Proofs.Ytgimohchocjgcaa

/-- The statement. -/
theorem limbBytes_holds : Rows.LimbBytesSaid := V.limbBytes.over

#print axioms limbBytes_holds
end Go.Proofs.Ytgimohchocjgcaa
