import Derived.Test.YtgimohchocjgcaaVRW
import Derived.Test.YtgimohchocjgcaaVLAW
import Derived.Test.YtgimohchocjgcaaVOS
set_option linter.unusedVariables false
set_option linter.unusedSimpArgs false
namespace Go.Proofs.Ytgimohchocjgcaa.V.circLong
open Go.ChangeShapes Go.WideShapes Go.ChangeAt Go.RowKit
set_option maxRecDepth 100000 in
theorem runs (N : Nat) (x : TKs ([KQ.any (K.ro .u8)].map KQ.k)) : zjp pd (fun f => look f (zvB N)) Try.f38 (zbZ [K.bool]) (mkLp pd (fun f => look f (zvB N)) (zdp pd Try.f38 (zbZ [K.bool])) N zyj 4) (zd6 ([KQ.any (K.ro .u8)].map KQ.k) x) = p38 N x.1 := by kernel_rfl
set_option maxRecDepth 100000 in
theorem lifted (os : Os) (started : os.Started) (H : Type) (enc : TypeId × Value -> H) :
    ReturnsInHanded {} Try.checked os 38 .any (Rows.circLongSpec.pre6 enc Try.prog Try.f38 Rows.circLongRow.domain false) (Rows.circLongSpec.post enc Try.prog Try.f38 false true false false) := by
  refine returnsInHanded_of_change (C := Try.checked) own started (by kernel_rfl) Try.func38
    (ChangeSpec.witness6 (enc := enc) (C := Try.checked) false ⟨#[], #[.slice none 0 0], []⟩ 8 (by kernel_rfl) (by kernel_rfl) (by kernel_rfl) (by kernel_rfl)) ?_
  intro W base args ds gs before hval hW hcnd _
  have hW' := hW
  obtain ⟨p, q, hA, hV, _⟩ := hW'
  have hp : Try.f38.params.toList = [24] := rfl
  have hlen := zhe hA
  rw [hp] at hlen
  have hA' : DataW.TrodAll enc Try.prog W 0 (fun _ => true) true Try.f38.params.toList args.toList ds p := hA
  obtain ⟨x, hq, hx⟩ := zhf (base := base) (ks := [KQ.any (K.ro .u8)]) (ts := Try.f38.params.toList) ⟨oq24, trivial⟩ hA' (fun j t v hj hw => hval j t v (by rw [← Array.getElem?_toList]; exact hj) (by rw [← Array.getElem?_toList]; exact hw))
  obtain ⟨d0, rfl⟩ : ∃ d0, ds = [d0] := by
    match ds, hlen with
    | [d0], _ => exact ⟨_, rfl⟩
  have hcall := zoh zaP (zak (zsM 2000)) Try.func38 (zas (by kernel_rfl)) ([KQ.any (K.ro .u8)].map KQ.k) (fun x => p38 2000 x.1) 2000 zyj 4 (runs 2000)
    x (by rw [zAM]; exact zrD _) W args.toList (fun b => b < W.heap.size) (fun _ h => h) hx
  rw [Array.toArray_toList] at hcall
  refine hcall.mono fun e W' ⟨he, hk⟩ => ⟨.bool true, he, ?_⟩
  exact ztC laid (by decide +kernel) rfl (tb := 4) rfl Try.underlying4 rfl hW hk
theorem named : Try.pinned.checked.prog.funcNamed Rows.circLongRow.func = some 38 := by kernel_rfl
theorem c3 : (Try.f38.params.all fun x => Try.pinned.checked.prog.readableRec x) = true := by kernel_rfl
theorem c9 : (Rows.circLongRow.inPlace == Try.pinned.checked.prog.inPlace 38) = true := by kernel_rfl
theorem c10 : (Rows.circLongRow.unfollowed == Try.pinned.checked.prog.unfollowed 38) = true := by kernel_rfl
theorem c11 : (Rows.circLongRow.recurses == Try.pinned.checked.prog.recurses 38) = true := by kernel_rfl
theorem c12 : (Rows.circLongRow.named == Try.pinned.checked.prog.varsNamed 38) = true := by kernel_rfl
theorem c26 : (Rows.circLongRow.lifted == Try.pinned.checked.prog.liftsFinal) = true := by
  have h : Try.pinned.checked.prog.liftsFinal = false := zkB
  rw [h]; rfl
theorem c27 : (Try.pinned.checked.prog.make == some Rows.circLongRow.make) = true := by
  have h : Try.pinned.checked.prog.make = some .cut := zug
  rw [h]; rfl
set_option maxRecDepth 100000 in
theorem closed : joinedFacts Try.pinned.checked.prog 38 Try.f38 Rows.circLongSpec Rows.circLongRow = true := by
  unfold joinedFacts
  repeat' (with_reducible apply both)
  all_goals first
    | with_reducible exact laid
    | with_reducible exact zA1
    | with_reducible exact c3
    | with_reducible exact c9
    | with_reducible exact c10
    | with_reducible exact c11
    | with_reducible exact c12
    | with_reducible exact zog
    | with_reducible exact c26
    | with_reducible exact c27
    | with_reducible exact zA2
    | (as_aux_lemma => kernel_rfl)
theorem inst : Try.f38.isInstance Try.pinned.checked.prog Rows.circLongRow.origin Rows.circLongRow.targs := (of_decide_eq_true (by kernel_rfl))
theorem wrapper : Try.f38.isWrapper Try.pinned.checked.prog Rows.circLongRow.wrapper Rows.circLongRow.mainSum := by
  unfold Func.isWrapper
  first | (rw [if_pos (by decide +kernel)]; kernel_rfl) | (rw [if_neg (by decide +kernel)]; exact ⟨rfl, rfl⟩)
theorem over : Rows.circLongRow.holds Try.pinned (OpenSpec.ofChange Rows.circLongSpec) :=
  OpenClaim.holds_of_wide 38 Try.f38 rfl rfl rfl rfl rfl rfl rfl ⟨rfl, rfl, rfl, rfl, rfl⟩ rfl rfl rfl rfl rfl named Try.func38 closed inst wrapper
    (fun os started H enc _ => lifted os started H enc)
end Go.Proofs.Ytgimohchocjgcaa.V.circLong
namespace Go.Proofs.Ytgimohchocjgcaa
theorem circLong_holds : Rows.CircLongSaid := V.circLong.over
#print axioms circLong_holds
end Go.Proofs.Ytgimohchocjgcaa
