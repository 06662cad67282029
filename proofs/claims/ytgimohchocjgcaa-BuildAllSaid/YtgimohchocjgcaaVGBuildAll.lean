import Derived.Test.YtgimohchocjgcaaVRW
import Derived.Test.YtgimohchocjgcaaVOP
import Derived.Test.YtgimohchocjgcaaVOS
set_option linter.unusedVariables false
set_option linter.unusedSimpArgs false
namespace Go.Proofs.Ytgimohchocjgcaa.V.buildAll
open Go.ChangeShapes Go.WideShapes Go.ChangeAt Go.RowKit
set_option maxRecDepth 100000 in
theorem runs (N : Nat) (x : TKs ([KQ.any (K.ro .step)].map KQ.k)) : zib pd (fun f => look f (zse N)) Try.f27 (zb1 [K.bool]) (mkLp pd (fun f => look f (zse N)) (zbQ pd Try.f27 (zb1 [K.bool])) N zt9 4) (zec ([KQ.any (K.ro .step)].map KQ.k) x) = p27 N x.1 := by kernel_rfl
set_option maxRecDepth 100000 in
theorem lifted (os : Os) (started : os.Started) (H : Type) (enc : TypeId × Value -> H) :
    ReturnsInHanded {} Try.checked os 27 .any (Rows.buildAllSpec.pre6 enc Try.prog Try.f27 Rows.buildAllRow.domain false) (Rows.buildAllSpec.post enc Try.prog Try.f27 false true false false) := by
  refine returnsInHanded_of_change (C := Try.checked) own started (by kernel_rfl) Try.func27
    (ChangeSpec.witness6 (enc := enc) (C := Try.checked) false ⟨#[], #[.slice none 0 0], []⟩ 8 (by kernel_rfl) (by kernel_rfl) (by kernel_rfl) (by kernel_rfl)) ?_
  intro W base args ds gs before hval hW hcnd _
  have hW' := hW
  obtain ⟨p, q, hA, hV, _⟩ := hW'
  have hp : Try.f27.params.toList = [81] := rfl
  have hlen := zgj hA
  rw [hp] at hlen
  have hA' : DataW.TrodAll enc Try.prog W 0 (fun _ => true) true Try.f27.params.toList args.toList ds p := hA
  obtain ⟨x, hq, hx⟩ := zgm (base := base) (ks := [KQ.any (K.ro .step)]) (ts := Try.f27.params.toList) ⟨oq81, trivial⟩ hA' (fun j t v hj hw => hval j t v (by rw [← Array.getElem?_toList]; exact hj) (by rw [← Array.getElem?_toList]; exact hw))
  obtain ⟨d0, rfl⟩ : ∃ d0, ds = [d0] := by
    match ds, hlen with
    | [d0], _ => exact ⟨_, rfl⟩
  have hcall := zmn za3 (zar (zpQ 2000)) Try.func27 (zau (by kernel_rfl)) ([KQ.any (K.ro .step)].map KQ.k) (fun x => p27 2000 x.1) 2000 zt9 4 (runs 2000)
    x (by rw [zxg]; exact zsJ _) W args.toList (fun b => b < W.heap.size) (fun _ h => h) hx
  rw [Array.toArray_toList] at hcall
  refine hcall.mono fun e W' ⟨he, hk⟩ => ⟨.bool true, he, ?_⟩
  exact zqy laid (by decide +kernel) rfl (tb := 4) rfl Try.underlying4 rfl hW hk
theorem named : Try.pinned.checked.prog.funcNamed Rows.buildAllRow.func = some 27 := by kernel_rfl
theorem c3 : (Try.f27.params.all fun x => Try.pinned.checked.prog.readableRec x) = true := by kernel_rfl
theorem c9 : (Rows.buildAllRow.inPlace == Try.pinned.checked.prog.inPlace 27) = true := by kernel_rfl
theorem c10 : (Rows.buildAllRow.unfollowed == Try.pinned.checked.prog.unfollowed 27) = true := by kernel_rfl
theorem c11 : (Rows.buildAllRow.recurses == Try.pinned.checked.prog.recurses 27) = true := by kernel_rfl
theorem c12 : (Rows.buildAllRow.named == Try.pinned.checked.prog.varsNamed 27) = true := by kernel_rfl
theorem c26 : (Rows.buildAllRow.lifted == Try.pinned.checked.prog.liftsFinal) = true := by
  have h : Try.pinned.checked.prog.liftsFinal = false := zjb
  rw [h]; rfl
theorem c27 : (Try.pinned.checked.prog.make == some Rows.buildAllRow.make) = true := by
  have h : Try.pinned.checked.prog.make = some .cut := zra
  rw [h]; rfl
set_option maxRecDepth 100000 in
theorem closed : joinedFacts Try.pinned.checked.prog 27 Try.f27 Rows.buildAllSpec Rows.buildAllRow = true := by
  unfold joinedFacts
  repeat' (with_reducible apply both)
  all_goals first
    | with_reducible exact laid
    | with_reducible exact zxm
    | with_reducible exact c3
    | with_reducible exact c9
    | with_reducible exact c10
    | with_reducible exact c11
    | with_reducible exact c12
    | with_reducible exact zmk
    | with_reducible exact c26
    | with_reducible exact c27
    | with_reducible exact zxn
    | (as_aux_lemma => kernel_rfl)
theorem inst : Try.f27.isInstance Try.pinned.checked.prog Rows.buildAllRow.origin Rows.buildAllRow.targs := (of_decide_eq_true (by kernel_rfl))
theorem wrapper : Try.f27.isWrapper Try.pinned.checked.prog Rows.buildAllRow.wrapper Rows.buildAllRow.mainSum := by
  unfold Func.isWrapper
  first | (rw [if_pos (by decide +kernel)]; kernel_rfl) | (rw [if_neg (by decide +kernel)]; exact ⟨rfl, rfl⟩)
theorem over : Rows.buildAllRow.holds Try.pinned (OpenSpec.ofChange Rows.buildAllSpec) :=
  OpenClaim.holds_of_wide 27 Try.f27 rfl rfl rfl rfl rfl rfl rfl ⟨rfl, rfl, rfl, rfl, rfl⟩ rfl rfl rfl rfl rfl named Try.func27 closed inst wrapper
    (fun os started H enc _ => lifted os started H enc)
end Go.Proofs.Ytgimohchocjgcaa.V.buildAll
namespace Go.Proofs.Ytgimohchocjgcaa
theorem buildAll_holds : Rows.BuildAllSaid := V.buildAll.over
#print axioms buildAll_holds
end Go.Proofs.Ytgimohchocjgcaa
