/- The statement FrBytes: whatever the scalar and the bytes are, the law answers true, and its arguments read as they did. No condition. -/
import Derived.Test.YtgimohchocjgcaaVRW
import Derived.Test.YtgimohchocjgcaaVFW
import Derived.Test.YtgimohchocjgcaaVOR
set_option linter.unusedVariables false
set_option linter.unusedSimpArgs false
namespace Go.Proofs.Ytgimohchocjgcaa.V.frBytes
open Go.ChangeShapes Go.WideShapes Go.ChangeAt Go.RowKit

set_option maxRecDepth 100000 in
theorem lifted (os : Os) (started : os.Started) (H : Type) (enc : TypeId × Value → H) :
    ReturnsInHanded {} Try.checked os 30 .any (Rows.frBytesSpec.pre6 enc Try.prog Try.f30 Rows.frBytesRow.domain false) (Rows.frBytesSpec.post enc Try.prog Try.f30 false true false false) := by
  refine returnsInHanded_of_change (C := Try.checked) own started (by kernel_rfl) Try.func30
    (ChangeSpec.witness6 (enc := enc) (C := Try.checked) false ⟨#[], #[.agg #[.int .u64 0, .int .u64 0, .int .u64 0, .int .u64 0], .slice none 0 0], []⟩ 8 (by kernel_rfl) (by kernel_rfl) (by kernel_rfl) (by kernel_rfl)) ?_
  intro W base args ds gs before hval hW hcnd _
  have hW' := hW
  obtain ⟨p, q, hA, hV, _⟩ := hW'
  have hp : Try.f30.params.toList = [53, 24] := rfl
  have hlen := trodAll_len hA
  rw [hp] at hlen
  have hA' : DataW.TrodAll enc Try.prog W 0 (fun _ => true) true Try.f30.params.toList args.toList ds p := hA
  obtain ⟨x, hq, hx⟩ := opens_argsQ (base := base) (ks := [KQ.any K.fr, KQ.any (K.ro .u8)]) (ts := Try.f30.params.toList) ⟨oq53, oq24, trivial⟩ hA' (fun j t v hj hw => hval j t v (by rw [← Array.getElem?_toList]; exact hj) (by rw [← Array.getElem?_toList]; exact hw))
  obtain ⟨d0, d1, rfl⟩ : ∃ d0 d1, ds = [d0, d1] := by
    match ds, hlen with
    | [d0, d1], _ => exact ⟨_, _, rfl⟩
  have hcall := sgK_calls1 pd_ok (env_look (env30_ok 2000)) Try.func30 (name_ne (by kernel_rfl)) ([KQ.any K.fr, KQ.any (K.ro .u8)].map KQ.k) (fun x => p30 2000 x.1 x.2.1) 2000 tab30 4 (fun x => by kernel_rfl)
    x (by rw [p30_t]; exact fr_bytes_plain _ _) W args.toList (fun b => b < W.heap.size) (fun _ h => h) hx
  rw [Array.toArray_toList] at hcall
  refine hcall.mono fun e W' ⟨he, hk⟩ => ⟨.bool true, he, ?_⟩
  exact law_post laid (by decide +kernel) rfl (tb := 4) rfl Try.underlying4 rfl hW hk

theorem named : Try.pinned.checked.prog.funcNamed Rows.frBytesRow.func = some 30 := by kernel_rfl
theorem c3 : (Try.f30.params.all fun x => Try.pinned.checked.prog.readableRec x) = true := by kernel_rfl
theorem c9 : (Rows.frBytesRow.inPlace == Try.pinned.checked.prog.inPlace 30) = true := by kernel_rfl
theorem c10 : (Rows.frBytesRow.unfollowed == Try.pinned.checked.prog.unfollowed 30) = true := by kernel_rfl
theorem c11 : (Rows.frBytesRow.recurses == Try.pinned.checked.prog.recurses 30) = true := by kernel_rfl
theorem c12 : (Rows.frBytesRow.named == Try.pinned.checked.prog.varsNamed 30) = true := by kernel_rfl
theorem c26 : (Rows.frBytesRow.lifted == Try.pinned.checked.prog.liftsFinal) = true := by
  have h : Try.pinned.checked.prog.liftsFinal = false := lifts_final
  rw [h]; rfl
theorem c27 : (Try.pinned.checked.prog.make == some Rows.frBytesRow.make) = true := by
  have h : Try.pinned.checked.prog.make = some .cut := make_is
  rw [h]; rfl

set_option maxRecDepth 100000 in
theorem closed : joinedFacts Try.pinned.checked.prog 30 Try.f30 Rows.frBytesSpec Rows.frBytesRow = true := by
  unfold joinedFacts
  repeat' (with_reducible apply both)
  all_goals first
    | with_reducible exact laid
    | with_reducible exact rowed
    | with_reducible exact c3
    | with_reducible exact c9
    | with_reducible exact c10
    | with_reducible exact c11
    | with_reducible exact c12
    | with_reducible exact may_enter'
    | with_reducible exact c26
    | with_reducible exact c27
    | with_reducible exact heard
    | (as_aux_lemma => kernel_rfl)

theorem inst : Try.f30.isInstance Try.pinned.checked.prog Rows.frBytesRow.origin Rows.frBytesRow.targs := (of_decide_eq_true (by kernel_rfl))

theorem wrapper : Try.f30.isWrapper Try.pinned.checked.prog Rows.frBytesRow.wrapper Rows.frBytesRow.mainSum := by
  unfold Func.isWrapper
  first | (rw [if_pos (by decide +kernel)]; kernel_rfl) | (rw [if_neg (by decide +kernel)]; exact ⟨rfl, rfl⟩)

theorem over : Rows.frBytesRow.holds Try.pinned (OpenSpec.ofChange Rows.frBytesSpec) :=
  OpenClaim.holds_of_wide 30 Try.f30 rfl rfl rfl rfl rfl rfl rfl ⟨rfl, rfl, rfl, rfl, rfl⟩ rfl rfl rfl rfl rfl named Try.func30 closed inst wrapper
    (fun os started H enc _ => lifted os started H enc)

end Go.Proofs.Ytgimohchocjgcaa.V.frBytes
namespace Go.Proofs.Ytgimohchocjgcaa

/-- The statement. -/
theorem frBytes_holds : Rows.FrBytesSaid := V.frBytes.over

#print axioms frBytes_holds
end Go.Proofs.Ytgimohchocjgcaa
