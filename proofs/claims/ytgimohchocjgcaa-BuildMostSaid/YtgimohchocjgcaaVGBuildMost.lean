import Derived.Test.YtgimohchocjgcaaVRW
import Derived.Test.YtgimohchocjgcaaVOS
set_option linter.unusedVariables false
set_option linter.unusedSimpArgs false
namespace Go.Proofs.Ytgimohchocjgcaa.V.buildMost
open Go.ChangeShapes Go.WideShapes Go.ChangeAt Go.RowKit
set_option maxRecDepth 100000 in
theorem runs (N : Nat) (x : TKs ([KQ.any K.u8].map KQ.k)) : zgg pd (fun f => look f (zol N)) Try.f28 (zbJ [K.bool]) (mkLp pd (fun f => look f (zol N)) (zbg pd Try.f28 (zbJ [K.bool])) N zpv 4) (zdA ([KQ.any K.u8].map KQ.k) x) = p28 N x.1 := by kernel_rfl
set_option maxRecDepth 100000 in
theorem lifted (os : Os) (started : os.Started) (H : Type) (enc : TypeId × Value -> H) :
    ReturnsInHanded {} Try.checked os 28 .any (Rows.buildMostSpec.pre6 enc Try.prog Try.f28 Rows.buildMostRow.domain false) (Rows.buildMostSpec.post enc Try.prog Try.f28 false true false false) := by
  refine returnsInHanded_of_change (C := Try.checked) own started (by kernel_rfl) Try.func28
    (ChangeSpec.witness6 (enc := enc) (C := Try.checked) false ⟨#[], #[.int .u8 0], []⟩ 8 (by kernel_rfl) (by kernel_rfl) (by kernel_rfl) (by kernel_rfl)) ?_
  intro W base args ds gs before hval hW hcnd _
  have hW' := hW
  obtain ⟨p, q, hA, hV, _⟩ := hW'
  have hp : Try.f28.params.toList = [5] := rfl
  have hlen := zeQ hA
  rw [hp] at hlen
  have hA' : DataW.TrodAll enc Try.prog W 0 (fun _ => true) true Try.f28.params.toList args.toList ds p := hA
  obtain ⟨x, hq, hx⟩ := zeR (base := base) (ks := [KQ.any K.u8]) (ts := Try.f28.params.toList) ⟨oq5, trivial⟩ hA' (fun j t v hj hw => hval j t v (by rw [← Array.getElem?_toList]; exact hj) (by rw [← Array.getElem?_toList]; exact hw))
  obtain ⟨d0, rfl⟩ : ∃ d0, ds = [d0] := by
    match ds, hlen with
    | [d0], _ => exact ⟨_, rfl⟩
  have hcall := zjF zbC (zau (zmH 2000)) Try.func28 (zax (by kernel_rfl)) ([KQ.any K.u8].map KQ.k) (fun x => p28 2000 x.1) 2000 zpv 4 (runs 2000)
    x (by rw [zqZ]; exact zoq _) W args.toList (fun b => b < W.heap.size) (fun _ h => h) hx
  rw [Array.toArray_toList] at hcall
  refine hcall.mono fun e W' ⟨he, hk⟩ => ⟨.bool true, he, ?_⟩
  exact zmZ laid (by decide +kernel) rfl (tb := 4) rfl Try.underlying4 rfl hW hk
theorem named : Try.pinned.checked.prog.funcNamed Rows.buildMostRow.func = some 28 := by kernel_rfl
theorem c3 : (Try.f28.params.all fun x => Try.pinned.checked.prog.readableRec x) = true := by kernel_rfl
theorem c9 : (Rows.buildMostRow.inPlace == Try.pinned.checked.prog.inPlace 28) = true := by kernel_rfl
theorem c10 : (Rows.buildMostRow.unfollowed == Try.pinned.checked.prog.unfollowed 28) = true := by kernel_rfl
theorem c11 : (Rows.buildMostRow.recurses == Try.pinned.checked.prog.recurses 28) = true := by kernel_rfl
theorem c12 : (Rows.buildMostRow.named == Try.pinned.checked.prog.varsNamed 28) = true := by kernel_rfl
theorem c26 : (Rows.buildMostRow.lifted == Try.pinned.checked.prog.liftsFinal) = true := by
  have h : Try.pinned.checked.prog.liftsFinal = false := zg9
  rw [h]; rfl
theorem c27 : (Try.pinned.checked.prog.make == some Rows.buildMostRow.make) = true := by
  have h : Try.pinned.checked.prog.make = some .cut := zno
  rw [h]; rfl
set_option maxRecDepth 100000 in
theorem closed : joinedFacts Try.pinned.checked.prog 28 Try.f28 Rows.buildMostSpec Rows.buildMostRow = true := by
  unfold joinedFacts
  repeat' (with_reducible apply both)
  all_goals first
    | with_reducible exact laid
    | with_reducible exact zq0
    | with_reducible exact c3
    | with_reducible exact c9
    | with_reducible exact c10
    | with_reducible exact c11
    | with_reducible exact c12
    | with_reducible exact zjE
    | with_reducible exact c26
    | with_reducible exact c27
    | with_reducible exact zq1
    | (as_aux_lemma => kernel_rfl)
theorem inst : Try.f28.isInstance Try.pinned.checked.prog Rows.buildMostRow.origin Rows.buildMostRow.targs := (of_decide_eq_true (by kernel_rfl))
theorem wrapper : Try.f28.isWrapper Try.pinned.checked.prog Rows.buildMostRow.wrapper Rows.buildMostRow.mainSum := by
  unfold Func.isWrapper
  first | (rw [if_pos (by decide +kernel)]; kernel_rfl) | (rw [if_neg (by decide +kernel)]; exact ⟨rfl, rfl⟩)
theorem over : Rows.buildMostRow.holds Try.pinned (OpenSpec.ofChange Rows.buildMostSpec) :=
  OpenClaim.holds_of_wide 28 Try.f28 rfl rfl rfl rfl rfl rfl rfl ⟨rfl, rfl, rfl, rfl, rfl⟩ rfl rfl rfl rfl rfl named Try.func28 closed inst wrapper
    (fun os started H enc _ => lifted os started H enc)
end Go.Proofs.Ytgimohchocjgcaa.V.buildMost
namespace Go.Proofs.Ytgimohchocjgcaa
theorem buildMost_holds : Rows.BuildMostSaid := V.buildMost.over
#print axioms buildMost_holds
end Go.Proofs.Ytgimohchocjgcaa
