import Derived.Test.YtgimohchocjgcaaVRW
import Derived.Test.YtgimohchocjgcaaVOS
set_option linter.unusedVariables false
set_option linter.unusedSimpArgs false
namespace Go.Proofs.Ytgimohchocjgcaa.V.evalFirst
open Go.ChangeShapes Go.WideShapes Go.ChangeAt Go.RowKit
set_option maxRecDepth 100000 in
theorem runs (N : Nat) (x : TKs ([KQ.any (K.ro .u8), KQ.any K.u8, KQ.any K.fr].map KQ.k)) : zjh pd (fun f => look f (zv9 N)) Try.f41 (zce [K.bool]) (mkLp pd (fun f => look f (zv9 N)) (zc1 pd Try.f41 (zce [K.bool])) N zyO 4) (zeL ([KQ.any (K.ro .u8), KQ.any K.u8, KQ.any K.fr].map KQ.k) x) = p41 N x.1 x.2.1 x.2.2.1 := by kernel_rfl
set_option maxRecDepth 100000 in
theorem lifted (os : Os) (started : os.Started) (H : Type) (enc : TypeId × Value -> H) :
    ReturnsInHanded {} Try.checked os 41 .any (Rows.evalFirstSpec.pre6 enc Try.prog Try.f41 Rows.evalFirstRow.domain false) (Rows.evalFirstSpec.post enc Try.prog Try.f41 false true false false) := by
  refine returnsInHanded_of_change (C := Try.checked) own started (by kernel_rfl) Try.func41
    (ChangeSpec.witness6 (enc := enc) (C := Try.checked) false ⟨#[], #[.slice none 0 0, .int .u8 0, .agg #[.int .u64 0, .int .u64 0, .int .u64 0, .int .u64 0]], []⟩ 8 (by kernel_rfl) (by kernel_rfl) (by kernel_rfl) (by kernel_rfl)) ?_
  intro W base args ds gs before hval hW hcnd _
  have hW' := hW
  obtain ⟨p, q, hA, hV, _⟩ := hW'
  have hp : Try.f41.params.toList = [24, 5, 53] := rfl
  have hlen := zg3 hA
  rw [hp] at hlen
  have hA' : DataW.TrodAll enc Try.prog W 0 (fun _ => true) true Try.f41.params.toList args.toList ds p := hA
  obtain ⟨x, hq, hx⟩ := zg7 (base := base) (ks := [KQ.any (K.ro .u8), KQ.any K.u8, KQ.any K.fr]) (ts := Try.f41.params.toList) ⟨oq24, oq5, oq53, trivial⟩ hA' (fun j t v hj hw => hval j t v (by rw [← Array.getElem?_toList]; exact hj) (by rw [← Array.getElem?_toList]; exact hw))
  obtain ⟨d0, d1, d2, rfl⟩ : ∃ d0 d1 d2, ds = [d0, d1, d2] := by
    match ds, hlen with
    | [d0, d1, d2], _ => exact ⟨_, _, _, rfl⟩
  have hcall := znX zaQ (zak (zsT 100000)) Try.func41 (zar (by kernel_rfl)) ([KQ.any (K.ro .u8), KQ.any K.u8, KQ.any K.fr].map KQ.k) (fun x => p41 100000 x.1 x.2.1 x.2.2.1) 100000 zyO 4 (runs 100000)
    x (by rw [zBA]; exact zft _ _ _) W args.toList (fun b => b < W.heap.size) (fun _ h => h) hx
  rw [Array.toArray_toList] at hcall
  refine hcall.mono fun e W' ⟨he, hk⟩ => ⟨.bool true, he, ?_⟩
  exact ztY laid (by decide +kernel) rfl (tb := 4) rfl Try.underlying4 rfl hW hk
theorem named : Try.pinned.checked.prog.funcNamed Rows.evalFirstRow.func = some 41 := by kernel_rfl
theorem c3 : (Try.f41.params.all fun x => Try.pinned.checked.prog.readableRec x) = true := by kernel_rfl
theorem c9 : (Rows.evalFirstRow.inPlace == Try.pinned.checked.prog.inPlace 41) = true := by kernel_rfl
theorem c10 : (Rows.evalFirstRow.unfollowed == Try.pinned.checked.prog.unfollowed 41) = true := by kernel_rfl
theorem c11 : (Rows.evalFirstRow.recurses == Try.pinned.checked.prog.recurses 41) = true := by kernel_rfl
theorem c12 : (Rows.evalFirstRow.named == Try.pinned.checked.prog.varsNamed 41) = true := by kernel_rfl
theorem c26 : (Rows.evalFirstRow.lifted == Try.pinned.checked.prog.liftsFinal) = true := by
  have h : Try.pinned.checked.prog.liftsFinal = false := zki
  rw [h]; rfl
theorem c27 : (Try.pinned.checked.prog.make == some Rows.evalFirstRow.make) = true := by
  have h : Try.pinned.checked.prog.make = some .cut := zuQ
  rw [h]; rfl
set_option maxRecDepth 100000 in
theorem closed : joinedFacts Try.pinned.checked.prog 41 Try.f41 Rows.evalFirstSpec Rows.evalFirstRow = true := by
  unfold joinedFacts
  repeat' (with_reducible apply both)
  all_goals first
    | with_reducible exact laid
    | with_reducible exact zBC
    | with_reducible exact c3
    | with_reducible exact c9
    | with_reducible exact c10
    | with_reducible exact c11
    | with_reducible exact c12
    | with_reducible exact znT
    | with_reducible exact c26
    | with_reducible exact c27
    | with_reducible exact zBD
    | (as_aux_lemma => kernel_rfl)
theorem inst : Try.f41.isInstance Try.pinned.checked.prog Rows.evalFirstRow.origin Rows.evalFirstRow.targs := (of_decide_eq_true (by kernel_rfl))
theorem wrapper : Try.f41.isWrapper Try.pinned.checked.prog Rows.evalFirstRow.wrapper Rows.evalFirstRow.mainSum := by
  unfold Func.isWrapper
  first | (rw [if_pos (by decide +kernel)]; kernel_rfl) | (rw [if_neg (by decide +kernel)]; exact ⟨rfl, rfl⟩)
theorem over : Rows.evalFirstRow.holds Try.pinned (OpenSpec.ofChange Rows.evalFirstSpec) :=
  OpenClaim.holds_of_wide 41 Try.f41 rfl rfl rfl rfl rfl rfl rfl ⟨rfl, rfl, rfl, rfl, rfl⟩ rfl rfl rfl rfl rfl named Try.func41 closed inst wrapper
    (fun os started H enc _ => lifted os started H enc)
end Go.Proofs.Ytgimohchocjgcaa.V.evalFirst
namespace Go.Proofs.Ytgimohchocjgcaa
theorem evalFirst_holds : Rows.EvalFirstSaid := V.evalFirst.over
#print axioms evalFirst_holds
end Go.Proofs.Ytgimohchocjgcaa
