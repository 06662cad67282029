import Derived.Test.YtgimohchocjgcaaVRW
import Derived.Test.YtgimohchocjgcaaVBR3
import Derived.Test.YtgimohchocjgcaaVOS
set_option linter.unusedVariables false
set_option linter.unusedSimpArgs false
namespace Go.Proofs.Ytgimohchocjgcaa.V.buildPublic
open Go.ChangeShapes Go.WideShapes Go.ChangeAt Go.RowKit
set_option maxRecDepth 100000 in
theorem runs (N : Nat) (x : TKs ([KQ.any (K.ro .u8)].map KQ.k)) : zgX pd (fun f => look f (zpG N)) Try.f29 (zb5 [K.bool]) (mkLp pd (fun f => look f (zpG N)) (zbv pd Try.f29 (zb5 [K.bool])) N zq7 4) (zd4 ([KQ.any (K.ro .u8)].map KQ.k) x) = p29 N x.1 := by kernel_rfl
set_option maxRecDepth 100000 in
theorem lifted (os : Os) (started : os.Started) (H : Type) (enc : TypeId × Value -> H) :
    ReturnsInHanded {} Try.checked os 29 .any (Rows.buildPublicSpec.pre6 enc Try.prog Try.f29 Rows.buildPublicRow.domain false) (Rows.buildPublicSpec.post enc Try.prog Try.f29 false true false false) := by
  refine returnsInHanded_of_change (C := Try.checked) own started (by kernel_rfl) Try.func29
    (ChangeSpec.witness6 (enc := enc) (C := Try.checked) false ⟨#[], #[.slice none 0 0], []⟩ 8 (by kernel_rfl) (by kernel_rfl) (by kernel_rfl) (by kernel_rfl)) ?_
  intro W base args ds gs before hval hW hcnd _
  have hW' := hW
  obtain ⟨p, q, hA, hV, _⟩ := hW'
  have hp : Try.f29.params.toList = [24] := rfl
  have hlen := zfv hA
  rw [hp] at hlen
  have hA' : DataW.TrodAll enc Try.prog W 0 (fun _ => true) true Try.f29.params.toList args.toList ds p := hA
  obtain ⟨x, hq, hx⟩ := zfw (base := base) (ks := [KQ.any (K.ro .u8)]) (ts := Try.f29.params.toList) ⟨oq24, trivial⟩ hA' (fun j t v hj hw => hval j t v (by rw [← Array.getElem?_toList]; exact hj) (by rw [← Array.getElem?_toList]; exact hw))
  obtain ⟨d0, rfl⟩ : ∃ d0, ds = [d0] := by
    match ds, hlen with
    | [d0], _ => exact ⟨_, rfl⟩
  have hcall := zkr zbW (zaw (znE 2000)) Try.func29 (zaD (by kernel_rfl)) ([KQ.any (K.ro .u8)].map KQ.k) (fun x => p29 2000 x.1) 2000 zq7 4 (runs 2000)
    x (by rw [ztw]; exact zpY _) W args.toList (fun b => b < W.heap.size) (fun _ h => h) hx
  rw [Array.toArray_toList] at hcall
  refine hcall.mono fun e W' ⟨he, hk⟩ => ⟨.bool true, he, ?_⟩
  exact zoi laid (by decide +kernel) rfl (tb := 4) rfl Try.underlying4 rfl hW hk
theorem named : Try.pinned.checked.prog.funcNamed Rows.buildPublicRow.func = some 29 := by kernel_rfl
theorem c3 : (Try.f29.params.all fun x => Try.pinned.checked.prog.readableRec x) = true := by kernel_rfl
theorem c9 : (Rows.buildPublicRow.inPlace == Try.pinned.checked.prog.inPlace 29) = true := by kernel_rfl
theorem c10 : (Rows.buildPublicRow.unfollowed == Try.pinned.checked.prog.unfollowed 29) = true := by kernel_rfl
theorem c11 : (Rows.buildPublicRow.recurses == Try.pinned.checked.prog.recurses 29) = true := by kernel_rfl
theorem c12 : (Rows.buildPublicRow.named == Try.pinned.checked.prog.varsNamed 29) = true := by kernel_rfl
theorem c26 : (Rows.buildPublicRow.lifted == Try.pinned.checked.prog.liftsFinal) = true := by
  have h : Try.pinned.checked.prog.liftsFinal = false := zhU
  rw [h]; rfl
theorem c27 : (Try.pinned.checked.prog.make == some Rows.buildPublicRow.make) = true := by
  have h : Try.pinned.checked.prog.make = some .cut := zoI
  rw [h]; rfl
set_option maxRecDepth 100000 in
theorem closed : joinedFacts Try.pinned.checked.prog 29 Try.f29 Rows.buildPublicSpec Rows.buildPublicRow = true := by
  unfold joinedFacts
  repeat' (with_reducible apply both)
  all_goals first
    | with_reducible exact laid
    | with_reducible exact ztB
    | with_reducible exact c3
    | with_reducible exact c9
    | with_reducible exact c10
    | with_reducible exact c11
    | with_reducible exact c12
    | with_reducible exact zkq
    | with_reducible exact c26
    | with_reducible exact c27
    | with_reducible exact ztC
    | (as_aux_lemma => kernel_rfl)
theorem inst : Try.f29.isInstance Try.pinned.checked.prog Rows.buildPublicRow.origin Rows.buildPublicRow.targs := (of_decide_eq_true (by kernel_rfl))
theorem wrapper : Try.f29.isWrapper Try.pinned.checked.prog Rows.buildPublicRow.wrapper Rows.buildPublicRow.mainSum := by
  unfold Func.isWrapper
  first | (rw [if_pos (by decide +kernel)]; kernel_rfl) | (rw [if_neg (by decide +kernel)]; exact ⟨rfl, rfl⟩)
theorem over : Rows.buildPublicRow.holds Try.pinned (OpenSpec.ofChange Rows.buildPublicSpec) :=
  OpenClaim.holds_of_wide 29 Try.f29 rfl rfl rfl rfl rfl rfl rfl ⟨rfl, rfl, rfl, rfl, rfl⟩ rfl rfl rfl rfl rfl named Try.func29 closed inst wrapper
    (fun os started H enc _ => lifted os started H enc)
end Go.Proofs.Ytgimohchocjgcaa.V.buildPublic
namespace Go.Proofs.Ytgimohchocjgcaa
theorem buildPublic_holds : Rows.BuildPublicSaid := V.buildPublic.over
#print axioms buildPublic_holds
end Go.Proofs.Ytgimohchocjgcaa
