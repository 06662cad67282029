import Derived.Test.YtgimohchocjgcaaVRW
import Derived.Test.YtgimohchocjgcaaVEB5
import Derived.Test.YtgimohchocjgcaaVGH3
set_option linter.unusedVariables false
set_option linter.unusedSimpArgs false
namespace Go.Proofs.Ytgimohchocjgcaa.V.evalBuilt
open Go.ChangeShapes Go.WideShapes Go.ChangeAt Go.RowKit
set_option maxRecDepth 100000 in
theorem runs (N : Nat) (x : TKs ([KQ.any (K.ro .u8), KQ.any K.u8, KQ.any K.fr, KQ.any K.u8].map KQ.k)) : zjI pd (fun f => look f (zw8 N)) Try.f40 (zch [K.bool]) (mkLp pd (fun f => look f (zw8 N)) (zc7 pd Try.f40 (zch [K.bool])) N zzY 4) (zeT ([KQ.any (K.ro .u8), KQ.any K.u8, KQ.any K.fr, KQ.any K.u8].map KQ.k) x) = p40 N x.1 x.2.1 x.2.2.1 x.2.2.2.1 := by kernel_rfl
set_option maxRecDepth 100000 in
theorem lifted (os : Os) (started : os.Started) (H : Type) (enc : TypeId × Value -> H) :
    ReturnsInHanded {} Try.checked os 40 .any (Rows.evalBuiltSpec.pre6 enc Try.prog Try.f40 Rows.evalBuiltRow.domain false) (Rows.evalBuiltSpec.post enc Try.prog Try.f40 false true false false) := by
  refine returnsInHanded_of_change (C := Try.checked) own started (by kernel_rfl) Try.func40
    (ChangeSpec.witness6 (enc := enc) (C := Try.checked) false ⟨#[], #[.slice none 0 0, .int .u8 0, .agg #[.int .u64 0, .int .u64 0, .int .u64 0, .int .u64 0], .int .u8 0], []⟩ 8 (by kernel_rfl) (by kernel_rfl) (by kernel_rfl) (by kernel_rfl)) ?_
  intro W base args ds gs before hval hW hcnd _
  have hW' := hW
  obtain ⟨p, q, hA, hV, _⟩ := hW'
  have hp : Try.f40.params.toList = [24, 5, 53, 5] := rfl
  have hlen := zhf hA
  rw [hp] at hlen
  have hA' : DataW.TrodAll enc Try.prog W 0 (fun _ => true) true Try.f40.params.toList args.toList ds p := hA
  obtain ⟨x, hq, hx⟩ := zhj (base := base) (ks := [KQ.any (K.ro .u8), KQ.any K.u8, KQ.any K.fr, KQ.any K.u8]) (ts := Try.f40.params.toList) ⟨oq24, oq5, oq53, oq5, trivial⟩ hA' (fun j t v hj hw => hval j t v (by rw [← Array.getElem?_toList]; exact hj) (by rw [← Array.getElem?_toList]; exact hw))
  obtain ⟨d0, d1, d2, d3, rfl⟩ : ∃ d0 d1 d2 d3, ds = [d0, d1, d2, d3] := by
    match ds, hlen with
    | [d0, d1, d2, d3], _ => exact ⟨_, _, _, _, rfl⟩
  have hcall := zoq zaP (zak (ztB 100000)) Try.func40 (zan (by kernel_rfl)) ([KQ.any (K.ro .u8), KQ.any K.u8, KQ.any K.fr, KQ.any K.u8].map KQ.k) (fun x => p40 100000 x.1 x.2.1 x.2.2.1 x.2.2.2.1) 100000 zzY 4 (runs 100000)
    x (by rw [zCN]; exact zfE _ _ _ _) W args.toList (fun b => b < W.heap.size) (fun _ h => h) hx
  rw [Array.toArray_toList] at hcall
  refine hcall.mono fun e W' ⟨he, hk⟩ => ⟨.bool true, he, ?_⟩
  exact zuM laid (by decide +kernel) rfl (tb := 4) rfl Try.underlying4 rfl hW hk
theorem named : Try.pinned.checked.prog.funcNamed Rows.evalBuiltRow.func = some 40 := by kernel_rfl
theorem c3 : (Try.f40.params.all fun x => Try.pinned.checked.prog.readableRec x) = true := by kernel_rfl
theorem c9 : (Rows.evalBuiltRow.inPlace == Try.pinned.checked.prog.inPlace 40) = true := by kernel_rfl
theorem c10 : (Rows.evalBuiltRow.unfollowed == Try.pinned.checked.prog.unfollowed 40) = true := by kernel_rfl
theorem c11 : (Rows.evalBuiltRow.recurses == Try.pinned.checked.prog.recurses 40) = true := by kernel_rfl
theorem c12 : (Rows.evalBuiltRow.named == Try.pinned.checked.prog.varsNamed 40) = true := by kernel_rfl
theorem c26 : (Rows.evalBuiltRow.lifted == Try.pinned.checked.prog.liftsFinal) = true := by
  have h : Try.pinned.checked.prog.liftsFinal = false := zkM
  rw [h]; rfl
theorem c27 : (Try.pinned.checked.prog.make == some Rows.evalBuiltRow.make) = true := by
  have h : Try.pinned.checked.prog.make = some .cut := zvK
  rw [h]; rfl
set_option maxRecDepth 100000 in
theorem closed : joinedFacts Try.pinned.checked.prog 40 Try.f40 Rows.evalBuiltSpec Rows.evalBuiltRow = true := by
  unfold joinedFacts
  repeat' (with_reducible apply both)
  all_goals first
    | with_reducible exact laid
    | with_reducible exact zCP
    | with_reducible exact c3
    | with_reducible exact c9
    | with_reducible exact c10
    | with_reducible exact c11
    | with_reducible exact c12
    | with_reducible exact zom
    | with_reducible exact c26
    | with_reducible exact c27
    | with_reducible exact zCQ
    | (as_aux_lemma => kernel_rfl)
theorem inst : Try.f40.isInstance Try.pinned.checked.prog Rows.evalBuiltRow.origin Rows.evalBuiltRow.targs := (of_decide_eq_true (by kernel_rfl))
theorem wrapper : Try.f40.isWrapper Try.pinned.checked.prog Rows.evalBuiltRow.wrapper Rows.evalBuiltRow.mainSum := by
  unfold Func.isWrapper
  first | (rw [if_pos (by decide +kernel)]; kernel_rfl) | (rw [if_neg (by decide +kernel)]; exact ⟨rfl, rfl⟩)
theorem over : Rows.evalBuiltRow.holds Try.pinned (OpenSpec.ofChange Rows.evalBuiltSpec) :=
  OpenClaim.holds_of_wide 40 Try.f40 rfl rfl rfl rfl rfl rfl rfl ⟨rfl, rfl, rfl, rfl, rfl⟩ rfl rfl rfl rfl rfl named Try.func40 closed inst wrapper
    (fun os started H enc _ => lifted os started H enc)
end Go.Proofs.Ytgimohchocjgcaa.V.evalBuilt
namespace Go.Proofs.Ytgimohchocjgcaa
theorem evalBuilt_holds : Rows.EvalBuiltSaid := V.evalBuilt.over
#print axioms evalBuilt_holds
end Go.Proofs.Ytgimohchocjgcaa
