import Derived.Test.YtgimohchocjgcaaVRW
import Derived.Test.YtgimohchocjgcaaVOS
set_option linter.unusedVariables false
set_option linter.unusedSimpArgs false
namespace Go.Proofs.Ytgimohchocjgcaa.V.wireMade
open Go.ChangeShapes Go.WideShapes Go.ChangeAt Go.RowKit
set_option maxRecDepth 100000 in
theorem runs (N : Nat) (x : TKs ([KQ.any (K.ro .u8), KQ.any K.u8].map KQ.k)) : zjh pd (fun f => look f (zwf N)) Try.f33 (zcm [K.bool]) (mkLp pd (fun f => look f (zwf N)) (zc2 pd Try.f33 (zcm [K.bool])) N zyZ 4) (zeU ([KQ.any (K.ro .u8), KQ.any K.u8].map KQ.k) x) = p33 N x.1 x.2.1 := by kernel_rfl
set_option maxRecDepth 100000 in
theorem lifted (os : Os) (started : os.Started) (H : Type) (enc : TypeId × Value -> H) :
    ReturnsInHanded {} Try.checked os 33 .any (Rows.wireMadeSpec.pre6 enc Try.prog Try.f33 Rows.wireMadeRow.domain false) (Rows.wireMadeSpec.post enc Try.prog Try.f33 false true false false) := by
  refine returnsInHanded_of_change (C := Try.checked) own started (by kernel_rfl) Try.func33
    (ChangeSpec.witness6 (enc := enc) (C := Try.checked) false ⟨#[], #[.slice none 0 0, .int .u8 0], []⟩ 8 (by kernel_rfl) (by kernel_rfl) (by kernel_rfl) (by kernel_rfl)) ?_
  intro W base args ds gs before hval hW hcnd _
  have hW' := hW
  obtain ⟨p, q, hA, hV, _⟩ := hW'
  have hp : Try.f33.params.toList = [24, 5] := rfl
  have hlen := zg2 hA
  rw [hp] at hlen
  have hA' : DataW.TrodAll enc Try.prog W 0 (fun _ => true) true Try.f33.params.toList args.toList ds p := hA
  obtain ⟨x, hq, hx⟩ := zg3 (base := base) (ks := [KQ.any (K.ro .u8), KQ.any K.u8]) (ts := Try.f33.params.toList) ⟨oq24, oq5, trivial⟩ hA' (fun j t v hj hw => hval j t v (by rw [← Array.getElem?_toList]; exact hj) (by rw [← Array.getElem?_toList]; exact hw))
  obtain ⟨d0, d1, rfl⟩ : ∃ d0 d1, ds = [d0, d1] := by
    match ds, hlen with
    | [d0, d1], _ => exact ⟨_, _, rfl⟩
  have hcall := znR zaR (zal (zsV 100000)) Try.func33 (zaq (by kernel_rfl)) ([KQ.any (K.ro .u8), KQ.any K.u8].map KQ.k) (fun x => p33 100000 x.1 x.2.1) 100000 zyZ 4 (runs 100000)
    x (by rw [zBM]; exact zg1 _ _) W args.toList (fun b => b < W.heap.size) (fun _ h => h) hx
  rw [Array.toArray_toList] at hcall
  refine hcall.mono fun e W' ⟨he, hk⟩ => ⟨.bool true, he, ?_⟩
  exact zt7 laid (by decide +kernel) rfl (tb := 4) rfl Try.underlying4 rfl hW hk
theorem named : Try.pinned.checked.prog.funcNamed Rows.wireMadeRow.func = some 33 := by kernel_rfl
theorem c3 : (Try.f33.params.all fun x => Try.pinned.checked.prog.readableRec x) = true := by kernel_rfl
theorem c9 : (Rows.wireMadeRow.inPlace == Try.pinned.checked.prog.inPlace 33) = true := by kernel_rfl
theorem c10 : (Rows.wireMadeRow.unfollowed == Try.pinned.checked.prog.unfollowed 33) = true := by kernel_rfl
theorem c11 : (Rows.wireMadeRow.recurses == Try.pinned.checked.prog.recurses 33) = true := by kernel_rfl
theorem c12 : (Rows.wireMadeRow.named == Try.pinned.checked.prog.varsNamed 33) = true := by kernel_rfl
theorem c26 : (Rows.wireMadeRow.lifted == Try.pinned.checked.prog.liftsFinal) = true := by
  have h : Try.pinned.checked.prog.liftsFinal = false := zkd
  rw [h]; rfl
theorem c27 : (Try.pinned.checked.prog.make == some Rows.wireMadeRow.make) = true := by
  have h : Try.pinned.checked.prog.make = some .cut := zuV
  rw [h]; rfl
set_option maxRecDepth 100000 in
theorem closed : joinedFacts Try.pinned.checked.prog 33 Try.f33 Rows.wireMadeSpec Rows.wireMadeRow = true := by
  unfold joinedFacts
  repeat' (with_reducible apply both)
  all_goals first
    | with_reducible exact laid
    | with_reducible exact zBY
    | with_reducible exact c3
    | with_reducible exact c9
    | with_reducible exact c10
    | with_reducible exact c11
    | with_reducible exact c12
    | with_reducible exact znQ
    | with_reducible exact c26
    | with_reducible exact c27
    | with_reducible exact zBZ
    | (as_aux_lemma => kernel_rfl)
theorem inst : Try.f33.isInstance Try.pinned.checked.prog Rows.wireMadeRow.origin Rows.wireMadeRow.targs := (of_decide_eq_true (by kernel_rfl))
theorem wrapper : Try.f33.isWrapper Try.pinned.checked.prog Rows.wireMadeRow.wrapper Rows.wireMadeRow.mainSum := by
  unfold Func.isWrapper
  first | (rw [if_pos (by decide +kernel)]; kernel_rfl) | (rw [if_neg (by decide +kernel)]; exact ⟨rfl, rfl⟩)
theorem over : Rows.wireMadeRow.holds Try.pinned (OpenSpec.ofChange Rows.wireMadeSpec) :=
  OpenClaim.holds_of_wide 33 Try.f33 rfl rfl rfl rfl rfl rfl rfl ⟨rfl, rfl, rfl, rfl, rfl⟩ rfl rfl rfl rfl rfl named Try.func33 closed inst wrapper
    (fun os started H enc _ => lifted os started H enc)
end Go.Proofs.Ytgimohchocjgcaa.V.wireMade
namespace Go.Proofs.Ytgimohchocjgcaa
theorem wireMade_holds : Rows.WireMadeSaid := V.wireMade.over
#print axioms wireMade_holds
end Go.Proofs.Ytgimohchocjgcaa
