import Derived.Test.YtgimohchocjgcaaVRW
import Derived.Test.YtgimohchocjgcaaVOP
import Derived.Test.YtgimohchocjgcaaVOS
set_option linter.unusedVariables false
set_option linter.unusedSimpArgs false
namespace Go.Proofs.Ytgimohchocjgcaa.V.buildSame
open Go.ChangeShapes Go.WideShapes Go.ChangeAt Go.RowKit
set_option maxRecDepth 100000 in
theorem runs (N : Nat) (x : TKs ([KQ.any (K.ro .u8), KQ.any (K.st .step), KQ.any K.u8].map KQ.k)) : zin pd (fun f => look f (zuA N)) Try.f31 (zb6 [K.bool]) (mkLp pd (fun f => look f (zuA N)) (zbU pd Try.f31 (zb6 [K.bool])) N zwY 4) (zel ([KQ.any (K.ro .u8), KQ.any (K.st .step), KQ.any K.u8].map KQ.k) x) = p31 N x.1 x.2.1 x.2.2.1 := by kernel_rfl
set_option maxRecDepth 100000 in
theorem lifted (os : Os) (started : os.Started) (H : Type) (enc : TypeId × Value -> H) :
    ReturnsInHanded {} Try.checked os 31 .any (Rows.buildSameSpec.pre6 enc Try.prog Try.f31 Rows.buildSameRow.domain false) (Rows.buildSameSpec.post enc Try.prog Try.f31 false true false false) := by
  refine returnsInHanded_of_change (C := Try.checked) own started (by kernel_rfl) Try.func31
    (ChangeSpec.witness6 (enc := enc) (C := Try.checked) false ⟨#[], #[.slice none 0 0, .agg #[.int .i64 0, .int .i64 0, .int .i64 0, .int .i64 0, .int .u64 0, .int .u64 0, .int .u64 0, .int .u64 0, .int .u64 0, .int .u64 0, .int .u64 0, .int .u64 0, .int .u64 0, .int .u64 0, .int .u64 0, .int .u64 0, .int .u64 0, .int .u64 0, .int .u64 0, .int .u64 0, .int .u64 0, .int .u64 0, .int .u64 0, .int .u64 0], .int .u8 0], []⟩ 8 (by kernel_rfl) (by kernel_rfl) (by kernel_rfl) (by kernel_rfl)) ?_
  intro W base args ds gs before hval hW hcnd _
  have hW' := hW
  obtain ⟨p, q, hA, hV, _⟩ := hW'
  have hp : Try.f31.params.toList = [24, 112, 5] := rfl
  have hlen := zgt hA
  rw [hp] at hlen
  have hA' : DataW.TrodAll enc Try.prog W 0 (fun _ => true) true Try.f31.params.toList args.toList ds p := hA
  obtain ⟨x, hq, hx⟩ := zgx (base := base) (ks := [KQ.any (K.ro .u8), KQ.any (K.st .step), KQ.any K.u8]) (ts := Try.f31.params.toList) ⟨oq24, zAh, oq5, trivial⟩ hA' (fun j t v hj hw => hval j t v (by rw [← Array.getElem?_toList]; exact hj) (by rw [← Array.getElem?_toList]; exact hw))
  obtain ⟨d0, d1, d2, rfl⟩ : ∃ d0 d1 d2, ds = [d0, d1, d2] := by
    match ds, hlen with
    | [d0, d1, d2], _ => exact ⟨_, _, _, rfl⟩
  have hcall := zm7 zaO (zaj (zrE 2000)) Try.func31 (zar (by kernel_rfl)) ([KQ.any (K.ro .u8), KQ.any (K.st .step), KQ.any K.u8].map KQ.k) (fun x => p31 2000 x.1 x.2.1 x.2.2.1) 2000 zwY 4 (runs 2000)
    x (by rw [zAc]; exact zva _ _ _) W args.toList (fun b => b < W.heap.size) (fun _ h => h) hx
  rw [Array.toArray_toList] at hcall
  refine hcall.mono fun e W' ⟨he, hk⟩ => ⟨.bool true, he, ?_⟩
  exact zsA laid (by decide +kernel) rfl (tb := 4) rfl Try.underlying4 rfl hW hk
theorem named : Try.pinned.checked.prog.funcNamed Rows.buildSameRow.func = some 31 := by kernel_rfl
theorem c3 : (Try.f31.params.all fun x => Try.pinned.checked.prog.readableRec x) = true := by kernel_rfl
theorem c9 : (Rows.buildSameRow.inPlace == Try.pinned.checked.prog.inPlace 31) = true := by kernel_rfl
theorem c10 : (Rows.buildSameRow.unfollowed == Try.pinned.checked.prog.unfollowed 31) = true := by kernel_rfl
theorem c11 : (Rows.buildSameRow.recurses == Try.pinned.checked.prog.recurses 31) = true := by kernel_rfl
theorem c12 : (Rows.buildSameRow.named == Try.pinned.checked.prog.varsNamed 31) = true := by kernel_rfl
theorem c26 : (Rows.buildSameRow.lifted == Try.pinned.checked.prog.liftsFinal) = true := by
  have h : Try.pinned.checked.prog.liftsFinal = false := zjs
  rw [h]; rfl
theorem c27 : (Try.pinned.checked.prog.make == some Rows.buildSameRow.make) = true := by
  have h : Try.pinned.checked.prog.make = some .cut := zti
  rw [h]; rfl
set_option maxRecDepth 100000 in
theorem closed : joinedFacts Try.pinned.checked.prog 31 Try.f31 Rows.buildSameSpec Rows.buildSameRow = true := by
  unfold joinedFacts
  repeat' (with_reducible apply both)
  all_goals first
    | with_reducible exact laid
    | with_reducible exact zAf
    | with_reducible exact c3
    | with_reducible exact c9
    | with_reducible exact c10
    | with_reducible exact c11
    | with_reducible exact c12
    | with_reducible exact zm3
    | with_reducible exact c26
    | with_reducible exact c27
    | with_reducible exact zAg
    | (as_aux_lemma => kernel_rfl)
theorem inst : Try.f31.isInstance Try.pinned.checked.prog Rows.buildSameRow.origin Rows.buildSameRow.targs := (of_decide_eq_true (by kernel_rfl))
theorem wrapper : Try.f31.isWrapper Try.pinned.checked.prog Rows.buildSameRow.wrapper Rows.buildSameRow.mainSum := by
  unfold Func.isWrapper
  first | (rw [if_pos (by decide +kernel)]; kernel_rfl) | (rw [if_neg (by decide +kernel)]; exact ⟨rfl, rfl⟩)
theorem over : Rows.buildSameRow.holds Try.pinned (OpenSpec.ofChange Rows.buildSameSpec) :=
  OpenClaim.holds_of_wide 31 Try.f31 rfl rfl rfl rfl rfl rfl rfl ⟨rfl, rfl, rfl, rfl, rfl⟩ rfl rfl rfl rfl rfl named Try.func31 closed inst wrapper
    (fun os started H enc _ => lifted os started H enc)
end Go.Proofs.Ytgimohchocjgcaa.V.buildSame
namespace Go.Proofs.Ytgimohchocjgcaa
theorem buildSame_holds : Rows.BuildSameSaid := V.buildSame.over
#print axioms buildSame_holds
end Go.Proofs.Ytgimohchocjgcaa
