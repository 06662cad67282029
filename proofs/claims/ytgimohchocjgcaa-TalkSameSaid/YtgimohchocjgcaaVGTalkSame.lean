import Derived.Test.YtgimohchocjgcaaVRW
import Derived.Test.YtgimohchocjgcaaVTK3
import Derived.Test.YtgimohchocjgcaaVOS
set_option linter.unusedVariables false
set_option linter.unusedSimpArgs false
namespace Go.Proofs.Ytgimohchocjgcaa.V.talkSame
open Go.ChangeShapes Go.WideShapes Go.ChangeAt Go.RowKit
set_option maxRecDepth 100000 in
theorem runs (N : Nat) (x : TKs ([KQ.any K.str, KQ.any K.rt, KQ.any (K.ro .u8)].map KQ.k)) : runFn pd (fun f => look f (env22 N)) Try.f22 (decUs [K.bool]) (mkLp pd (fun f => look f (env22 N)) (finish pd Try.f22 (decUs [K.bool])) N tab22 4) (encKs ([KQ.any K.str, KQ.any K.rt, KQ.any (K.ro .u8)].map KQ.k) x) = p22 N x.1 x.2.1 x.2.2.1 := by kernel_rfl
set_option maxRecDepth 100000 in
theorem lifted (os : Os) (started : os.Started) (H : Type) (enc : TypeId × Value → H) :
    ReturnsInHanded {} Try.checked os 22 .any (Rows.talkSameSpec.pre6 enc Try.prog Try.f22 Rows.talkSameRow.domain false) (Rows.talkSameSpec.post enc Try.prog Try.f22 false true false false) := by
  refine returnsInHanded_of_change (C := Try.checked) own started (by kernel_rfl) Try.func22
    (ChangeSpec.witness6 (enc := enc) (C := Try.checked) false ⟨#[], #[.string ⟨#[]⟩, .slice none 0 0, .slice none 0 0], []⟩ 8 (by kernel_rfl) (by kernel_rfl) (by kernel_rfl) (by kernel_rfl)) ?_
  intro W base args ds gs before hval hW hcnd _
  have hW' := hW
  obtain ⟨p, q, hA, hV, _⟩ := hW'
  have hp : Try.f22.params.toList = [9, 96, 24] := rfl
  have hlen := trodAll_len hA
  rw [hp] at hlen
  have hA' : DataW.TrodAll enc Try.prog W 0 (fun _ => true) true Try.f22.params.toList args.toList ds p := hA
  obtain ⟨x, hq, hx⟩ := opens_argsQ (base := base) (ks := [KQ.any K.str, KQ.any K.rt, KQ.any (K.ro .u8)]) (ts := Try.f22.params.toList) ⟨oq9, oq96, oq24, trivial⟩ hA' (fun j t v hj hw => hval j t v (by rw [← Array.getElem?_toList]; exact hj) (by rw [← Array.getElem?_toList]; exact hw))
  obtain ⟨d0, d1, d2, rfl⟩ : ∃ d0 d1 d2, ds = [d0, d1, d2] := by
    match ds, hlen with
    | [d0, d1, d2], _ => exact ⟨_, _, _, rfl⟩
  have hcall := sgK_calls1 pd_ok (env_look (env22_ok 2000)) Try.func22 (name_ne (by kernel_rfl)) ([KQ.any K.str, KQ.any K.rt, KQ.any (K.ro .u8)].map KQ.k) (fun x => p22 2000 x.1 x.2.1 x.2.2.1) 2000 tab22 4 (runs 2000)
    x (by rw [p22_t]; exact talkSame_plain _ _ _) W args.toList (fun b => b < W.heap.size) (fun _ h => h) hx
  rw [Array.toArray_toList] at hcall
  refine hcall.mono fun e W' ⟨he, hk⟩ => ⟨.bool true, he, ?_⟩
  exact law_post laid (by decide +kernel) rfl (tb := 4) rfl Try.underlying4 rfl hW hk
theorem named : Try.pinned.checked.prog.funcNamed Rows.talkSameRow.func = some 22 := by kernel_rfl
theorem c3 : (Try.f22.params.all fun x => Try.pinned.checked.prog.readableRec x) = true := by kernel_rfl
theorem c9 : (Rows.talkSameRow.inPlace == Try.pinned.checked.prog.inPlace 22) = true := by kernel_rfl
theorem c10 : (Rows.talkSameRow.unfollowed == Try.pinned.checked.prog.unfollowed 22) = true := by kernel_rfl
theorem c11 : (Rows.talkSameRow.recurses == Try.pinned.checked.prog.recurses 22) = true := by kernel_rfl
theorem c12 : (Rows.talkSameRow.named == Try.pinned.checked.prog.varsNamed 22) = true := by kernel_rfl
theorem c26 : (Rows.talkSameRow.lifted == Try.pinned.checked.prog.liftsFinal) = true := by
  have h : Try.pinned.checked.prog.liftsFinal = false := lifts_final
  rw [h]; rfl
theorem c27 : (Try.pinned.checked.prog.make == some Rows.talkSameRow.make) = true := by
  have h : Try.pinned.checked.prog.make = some .cut := make_is
  rw [h]; rfl
set_option maxRecDepth 100000 in
theorem closed : joinedFacts Try.pinned.checked.prog 22 Try.f22 Rows.talkSameSpec Rows.talkSameRow = true := by
  unfold joinedFacts
  repeat' (with_reducible apply both)
  all_goals first
    | with_reducible exact laid
    | with_reducible exact rowed
    | with_reducible exact c3
    | with_reducible exact c9
    | with_reducible exact c10
    | with_reducible exact c11
    | with_reducible exact c12
    | with_reducible exact may_enter'
    | with_reducible exact c26
    | with_reducible exact c27
    | with_reducible exact heard
    | (as_aux_lemma => kernel_rfl)
theorem inst : Try.f22.isInstance Try.pinned.checked.prog Rows.talkSameRow.origin Rows.talkSameRow.targs := (of_decide_eq_true (by kernel_rfl))
theorem wrapper : Try.f22.isWrapper Try.pinned.checked.prog Rows.talkSameRow.wrapper Rows.talkSameRow.mainSum := by
  unfold Func.isWrapper
  first | (rw [if_pos (by decide +kernel)]; kernel_rfl) | (rw [if_neg (by decide +kernel)]; exact ⟨rfl, rfl⟩)
theorem over : Rows.talkSameRow.holds Try.pinned (OpenSpec.ofChange Rows.talkSameSpec) :=
  OpenClaim.holds_of_wide 22 Try.f22 rfl rfl rfl rfl rfl rfl rfl ⟨rfl, rfl, rfl, rfl, rfl⟩ rfl rfl rfl rfl rfl named Try.func22 closed inst wrapper
    (fun os started H enc _ => lifted os started H enc)
end Go.Proofs.Ytgimohchocjgcaa.V.talkSame
namespace Go.Proofs.Ytgimohchocjgcaa
theorem talkSame_holds : Rows.TalkSameSaid := V.talkSame.over
#print axioms talkSame_holds
end Go.Proofs.Ytgimohchocjgcaa
