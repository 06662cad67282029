import Derived.Test.YtgimohchocjgcaaVRW
import Derived.Test.YtgimohchocjgcaaVOS
set_option linter.unusedVariables false
set_option linter.unusedSimpArgs false
namespace Go.Proofs.Ytgimohchocjgcaa.V.wireRings
open Go.ChangeShapes Go.WideShapes Go.ChangeAt Go.RowKit
set_option maxRecDepth 100000 in
theorem runs (N : Nat) (x : TKs ([KQ.any (K.ro .u8)].map KQ.k)) : zja pd (fun f => look f (zvE N)) Try.f35 (zck [K.bool]) (mkLp pd (fun f => look f (zvE N)) (zc2 pd Try.f35 (zck [K.bool])) N zyj 4) (zeS ([KQ.any (K.ro .u8)].map KQ.k) x) = p35 N x.1 := by kernel_rfl
set_option maxRecDepth 100000 in
theorem lifted (os : Os) (started : os.Started) (H : Type) (enc : TypeId × Value -> H) :
    ReturnsInHanded {} Try.checked os 35 .any (Rows.wireRingsSpec.pre6 enc Try.prog Try.f35 Rows.wireRingsRow.domain false) (Rows.wireRingsSpec.post enc Try.prog Try.f35 false true false false) := by
  refine returnsInHanded_of_change (C := Try.checked) own started (by kernel_rfl) Try.func35
    (ChangeSpec.witness6 (enc := enc) (C := Try.checked) false ⟨#[], #[.slice none 0 0], []⟩ 8 (by kernel_rfl) (by kernel_rfl) (by kernel_rfl) (by kernel_rfl)) ?_
  intro W base args ds gs before hval hW hcnd _
  have hW' := hW
  obtain ⟨p, q, hA, hV, _⟩ := hW'
  have hp : Try.f35.params.toList = [24] := rfl
  have hlen := zg1 hA
  rw [hp] at hlen
  have hA' : DataW.TrodAll enc Try.prog W 0 (fun _ => true) true Try.f35.params.toList args.toList ds p := hA
  obtain ⟨x, hq, hx⟩ := zg2 (base := base) (ks := [KQ.any (K.ro .u8)]) (ts := Try.f35.params.toList) ⟨oq24, trivial⟩ hA' (fun j t v hj hw => hval j t v (by rw [← Array.getElem?_toList]; exact hj) (by rw [← Array.getElem?_toList]; exact hw))
  obtain ⟨d0, rfl⟩ : ∃ d0, ds = [d0] := by
    match ds, hlen with
    | [d0], _ => exact ⟨_, rfl⟩
  have hcall := znJ zaU (zai (zsy 100000)) Try.func35 (zat (by kernel_rfl)) ([KQ.any (K.ro .u8)].map KQ.k) (fun x => p35 100000 x.1) 100000 zyj 4 (runs 100000)
    x (by rw [zBe]; exact zfA _) W args.toList (fun b => b < W.heap.size) (fun _ h => h) hx
  rw [Array.toArray_toList] at hcall
  refine hcall.mono fun e W' ⟨he, hk⟩ => ⟨.bool true, he, ?_⟩
  exact ztC laid (by decide +kernel) rfl (tb := 4) rfl Try.underlying4 rfl hW hk
theorem named : Try.pinned.checked.prog.funcNamed Rows.wireRingsRow.func = some 35 := by kernel_rfl
theorem c3 : (Try.f35.params.all fun x => Try.pinned.checked.prog.readableRec x) = true := by kernel_rfl
theorem c9 : (Rows.wireRingsRow.inPlace == Try.pinned.checked.prog.inPlace 35) = true := by kernel_rfl
theorem c10 : (Rows.wireRingsRow.unfollowed == Try.pinned.checked.prog.unfollowed 35) = true := by kernel_rfl
theorem c11 : (Rows.wireRingsRow.recurses == Try.pinned.checked.prog.recurses 35) = true := by kernel_rfl
theorem c12 : (Rows.wireRingsRow.named == Try.pinned.checked.prog.varsNamed 35) = true := by kernel_rfl
theorem c26 : (Rows.wireRingsRow.lifted == Try.pinned.checked.prog.liftsFinal) = true := by
  have h : Try.pinned.checked.prog.liftsFinal = false := zj7
  rw [h]; rfl
theorem c27 : (Try.pinned.checked.prog.make == some Rows.wireRingsRow.make) = true := by
  have h : Try.pinned.checked.prog.make = some .cut := zum
  rw [h]; rfl
set_option maxRecDepth 100000 in
theorem closed : joinedFacts Try.pinned.checked.prog 35 Try.f35 Rows.wireRingsSpec Rows.wireRingsRow = true := by
  unfold joinedFacts
  repeat' (with_reducible apply both)
  all_goals first
    | with_reducible exact laid
    | with_reducible exact zBg
    | with_reducible exact c3
    | with_reducible exact c9
    | with_reducible exact c10
    | with_reducible exact c11
    | with_reducible exact c12
    | with_reducible exact znI
    | with_reducible exact c26
    | with_reducible exact c27
    | with_reducible exact zBh
    | (as_aux_lemma => kernel_rfl)
theorem inst : Try.f35.isInstance Try.pinned.checked.prog Rows.wireRingsRow.origin Rows.wireRingsRow.targs := (of_decide_eq_true (by kernel_rfl))
theorem wrapper : Try.f35.isWrapper Try.pinned.checked.prog Rows.wireRingsRow.wrapper Rows.wireRingsRow.mainSum := by
  unfold Func.isWrapper
  first | (rw [if_pos (by decide +kernel)]; kernel_rfl) | (rw [if_neg (by decide +kernel)]; exact ⟨rfl, rfl⟩)
theorem over : Rows.wireRingsRow.holds Try.pinned (OpenSpec.ofChange Rows.wireRingsSpec) :=
  OpenClaim.holds_of_wide 35 Try.f35 rfl rfl rfl rfl rfl rfl rfl ⟨rfl, rfl, rfl, rfl, rfl⟩ rfl rfl rfl rfl rfl named Try.func35 closed inst wrapper
    (fun os started H enc _ => lifted os started H enc)
end Go.Proofs.Ytgimohchocjgcaa.V.wireRings
namespace Go.Proofs.Ytgimohchocjgcaa
theorem wireRings_holds : Rows.WireRingsSaid := V.wireRings.over
#print axioms wireRings_holds
end Go.Proofs.Ytgimohchocjgcaa
