import Derived.Test.YtgimohchocjgcaaVRW
import Derived.Test.YtgimohchocjgcaaVOS
set_option linter.unusedVariables false
set_option linter.unusedSimpArgs false
namespace Go.Proofs.Ytgimohchocjgcaa.V.wireMerges
open Go.ChangeShapes Go.WideShapes Go.ChangeAt Go.RowKit
set_option maxRecDepth 100000 in
theorem runs (N : Nat) (x : TKs ([KQ.any (K.ro .u8), KQ.any K.u8, KQ.any K.u8].map KQ.k)) : ziM pd (fun f => look f (zuP N)) Try.f36 (zcb [K.bool]) (mkLp pd (fun f => look f (zuP N)) (zcR pd Try.f36 (zcb [K.bool])) N zxo 4) (zeB ([KQ.any (K.ro .u8), KQ.any K.u8, KQ.any K.u8].map KQ.k) x) = p36 N x.1 x.2.1 x.2.2.1 := by kernel_rfl
set_option maxRecDepth 100000 in
theorem lifted (os : Os) (started : os.Started) (H : Type) (enc : TypeId × Value -> H) :
    ReturnsInHanded {} Try.checked os 36 .any (Rows.wireMergesSpec.pre6 enc Try.prog Try.f36 Rows.wireMergesRow.domain false) (Rows.wireMergesSpec.post enc Try.prog Try.f36 false true false false) := by
  refine returnsInHanded_of_change (C := Try.checked) own started (by kernel_rfl) Try.func36
    (ChangeSpec.witness6 (enc := enc) (C := Try.checked) false ⟨#[], #[.slice none 0 0, .int .u8 0, .int .u8 0], []⟩ 8 (by kernel_rfl) (by kernel_rfl) (by kernel_rfl) (by kernel_rfl)) ?_
  intro W base args ds gs before hval hW hcnd _
  have hW' := hW
  obtain ⟨p, q, hA, hV, _⟩ := hW'
  have hp : Try.f36.params.toList = [24, 5, 5] := rfl
  have hlen := zgD hA
  rw [hp] at hlen
  have hA' : DataW.TrodAll enc Try.prog W 0 (fun _ => true) true Try.f36.params.toList args.toList ds p := hA
  obtain ⟨x, hq, hx⟩ := zgE (base := base) (ks := [KQ.any (K.ro .u8), KQ.any K.u8, KQ.any K.u8]) (ts := Try.f36.params.toList) ⟨oq24, oq5, oq5, trivial⟩ hA' (fun j t v hj hw => hval j t v (by rw [← Array.getElem?_toList]; exact hj) (by rw [← Array.getElem?_toList]; exact hw))
  obtain ⟨d0, d1, d2, rfl⟩ : ∃ d0 d1 d2, ds = [d0, d1, d2] := by
    match ds, hlen with
    | [d0, d1, d2], _ => exact ⟨_, _, _, rfl⟩
  have hcall := znm zaP (zah (zrY 100000)) Try.func36 (zas (by kernel_rfl)) ([KQ.any (K.ro .u8), KQ.any K.u8, KQ.any K.u8].map KQ.k) (fun x => p36 100000 x.1 x.2.1 x.2.2.1) 100000 zxo 4 (runs 100000)
    x (by rw [zAj]; exact zeN _ _ _) W args.toList (fun b => b < W.heap.size) (fun _ h => h) hx
  rw [Array.toArray_toList] at hcall
  refine hcall.mono fun e W' ⟨he, hk⟩ => ⟨.bool true, he, ?_⟩
  exact zsR laid (by decide +kernel) rfl (tb := 4) rfl Try.underlying4 rfl hW hk
theorem named : Try.pinned.checked.prog.funcNamed Rows.wireMergesRow.func = some 36 := by kernel_rfl
theorem c3 : (Try.f36.params.all fun x => Try.pinned.checked.prog.readableRec x) = true := by kernel_rfl
theorem c9 : (Rows.wireMergesRow.inPlace == Try.pinned.checked.prog.inPlace 36) = true := by kernel_rfl
theorem c10 : (Rows.wireMergesRow.unfollowed == Try.pinned.checked.prog.unfollowed 36) = true := by kernel_rfl
theorem c11 : (Rows.wireMergesRow.recurses == Try.pinned.checked.prog.recurses 36) = true := by kernel_rfl
theorem c12 : (Rows.wireMergesRow.named == Try.pinned.checked.prog.varsNamed 36) = true := by kernel_rfl
theorem c26 : (Rows.wireMergesRow.lifted == Try.pinned.checked.prog.liftsFinal) = true := by
  have h : Try.pinned.checked.prog.liftsFinal = false := zjI
  rw [h]; rfl
theorem c27 : (Try.pinned.checked.prog.make == some Rows.wireMergesRow.make) = true := by
  have h : Try.pinned.checked.prog.make = some .cut := zty
  rw [h]; rfl
set_option maxRecDepth 100000 in
theorem closed : joinedFacts Try.pinned.checked.prog 36 Try.f36 Rows.wireMergesSpec Rows.wireMergesRow = true := by
  unfold joinedFacts
  repeat' (with_reducible apply both)
  all_goals first
    | with_reducible exact laid
    | with_reducible exact zAl
    | with_reducible exact c3
    | with_reducible exact c9
    | with_reducible exact c10
    | with_reducible exact c11
    | with_reducible exact c12
    | with_reducible exact znl
    | with_reducible exact c26
    | with_reducible exact c27
    | with_reducible exact zAm
    | (as_aux_lemma => kernel_rfl)
theorem inst : Try.f36.isInstance Try.pinned.checked.prog Rows.wireMergesRow.origin Rows.wireMergesRow.targs := (of_decide_eq_true (by kernel_rfl))
theorem wrapper : Try.f36.isWrapper Try.pinned.checked.prog Rows.wireMergesRow.wrapper Rows.wireMergesRow.mainSum := by
  unfold Func.isWrapper
  first | (rw [if_pos (by decide +kernel)]; kernel_rfl) | (rw [if_neg (by decide +kernel)]; exact ⟨rfl, rfl⟩)
theorem over : Rows.wireMergesRow.holds Try.pinned (OpenSpec.ofChange Rows.wireMergesSpec) :=
  OpenClaim.holds_of_wide 36 Try.f36 rfl rfl rfl rfl rfl rfl rfl ⟨rfl, rfl, rfl, rfl, rfl⟩ rfl rfl rfl rfl rfl named Try.func36 closed inst wrapper
    (fun os started H enc _ => lifted os started H enc)
end Go.Proofs.Ytgimohchocjgcaa.V.wireMerges
namespace Go.Proofs.Ytgimohchocjgcaa
theorem wireMerges_holds : Rows.WireMergesSaid := V.wireMerges.over
#print axioms wireMerges_holds
end Go.Proofs.Ytgimohchocjgcaa
