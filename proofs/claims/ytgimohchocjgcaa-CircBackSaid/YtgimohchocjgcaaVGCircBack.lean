import Derived.Test.YtgimohchocjgcaaVRW
import Derived.Test.YtgimohchocjgcaaVCP3
import Derived.Test.YtgimohchocjgcaaVOS
set_option linter.unusedVariables false
set_option linter.unusedSimpArgs false
namespace Go.Proofs.Ytgimohchocjgcaa.V.circBack
open Go.ChangeShapes Go.WideShapes Go.ChangeAt Go.RowKit
set_option maxRecDepth 100000 in
theorem runs (N : Nat) (x : TKs ([KQ.any (K.ro .u8), KQ.any K.int, KQ.any K.u8, KQ.any (K.ro .u8)].map KQ.k)) : zj5 pd (fun f => look f (zxq N)) Try.f37 (zcb [K.bool]) (mkLp pd (fun f => look f (zxq N)) (zdv pd Try.f37 (zcb [K.bool])) N zAp 4) (zeg ([KQ.any (K.ro .u8), KQ.any K.int, KQ.any K.u8, KQ.any (K.ro .u8)].map KQ.k) x) = p37 N x.1 x.2.1 x.2.2.1 x.2.2.2.1 := by kernel_rfl
set_option maxRecDepth 100000 in
theorem lifted (os : Os) (started : os.Started) (H : Type) (enc : TypeId × Value -> H) :
    ReturnsInHanded {} Try.checked os 37 .any (Rows.circBackSpec.pre6 enc Try.prog Try.f37 Rows.circBackRow.domain false) (Rows.circBackSpec.post enc Try.prog Try.f37 false true false false) := by
  refine returnsInHanded_of_change (C := Try.checked) own started (by kernel_rfl) Try.func37
    (ChangeSpec.witness6 (enc := enc) (C := Try.checked) false ⟨#[], #[.slice none 0 0, .int .i64 0, .int .u8 0, .slice none 0 0], []⟩ 8 (by kernel_rfl) (by kernel_rfl) (by kernel_rfl) (by kernel_rfl)) ?_
  intro W base args ds gs before hval hW hcnd _
  have hW' := hW
  obtain ⟨p, q, hA, hV, _⟩ := hW'
  have hp : Try.f37.params.toList = [24, 3, 5, 24] := rfl
  have hlen := zhE hA
  rw [hp] at hlen
  have hA' : DataW.TrodAll enc Try.prog W 0 (fun _ => true) true Try.f37.params.toList args.toList ds p := hA
  obtain ⟨x, hq, hx⟩ := zhF (base := base) (ks := [KQ.any (K.ro .u8), KQ.any K.int, KQ.any K.u8, KQ.any (K.ro .u8)]) (ts := Try.f37.params.toList) ⟨oq24, oq3, oq5, oq24, trivial⟩ hA' (fun j t v hj hw => hval j t v (by rw [← Array.getElem?_toList]; exact hj) (by rw [← Array.getElem?_toList]; exact hw))
  obtain ⟨d0, d1, d2, d3, rfl⟩ : ∃ d0 d1 d2 d3, ds = [d0, d1, d2, d3] := by
    match ds, hlen with
    | [d0, d1, d2, d3], _ => exact ⟨_, _, _, _, rfl⟩
  have hcall := zpf zaU (zaj (zud 2000)) Try.func37 (zas (by kernel_rfl)) ([KQ.any (K.ro .u8), KQ.any K.int, KQ.any K.u8, KQ.any (K.ro .u8)].map KQ.k) (fun x => p37 2000 x.1 x.2.1 x.2.2.1 x.2.2.2.1) 2000 zAp 4 (runs 2000)
    x (by rw [zC1]; exact zs5 _ _ _ _) W args.toList (fun b => b < W.heap.size) (fun _ h => h) hx
  rw [Array.toArray_toList] at hcall
  refine hcall.mono fun e W' ⟨he, hk⟩ => ⟨.bool true, he, ?_⟩
  exact zvk laid (by decide +kernel) rfl (tb := 4) rfl Try.underlying4 rfl hW hk
theorem named : Try.pinned.checked.prog.funcNamed Rows.circBackRow.func = some 37 := by kernel_rfl
theorem c3 : (Try.f37.params.all fun x => Try.pinned.checked.prog.readableRec x) = true := by kernel_rfl
theorem c9 : (Rows.circBackRow.inPlace == Try.pinned.checked.prog.inPlace 37) = true := by kernel_rfl
theorem c10 : (Rows.circBackRow.unfollowed == Try.pinned.checked.prog.unfollowed 37) = true := by kernel_rfl
theorem c11 : (Rows.circBackRow.recurses == Try.pinned.checked.prog.recurses 37) = true := by kernel_rfl
theorem c12 : (Rows.circBackRow.named == Try.pinned.checked.prog.varsNamed 37) = true := by kernel_rfl
theorem c26 : (Rows.circBackRow.lifted == Try.pinned.checked.prog.liftsFinal) = true := by
  have h : Try.pinned.checked.prog.liftsFinal = false := zlr
  rw [h]; rfl
theorem c27 : (Try.pinned.checked.prog.make == some Rows.circBackRow.make) = true := by
  have h : Try.pinned.checked.prog.make = some .cut := zv6
  rw [h]; rfl
set_option maxRecDepth 100000 in
theorem closed : joinedFacts Try.pinned.checked.prog 37 Try.f37 Rows.circBackSpec Rows.circBackRow = true := by
  unfold joinedFacts
  repeat' (with_reducible apply both)
  all_goals first
    | with_reducible exact laid
    | with_reducible exact zC6
    | with_reducible exact c3
    | with_reducible exact c9
    | with_reducible exact c10
    | with_reducible exact c11
    | with_reducible exact c12
    | with_reducible exact zpe
    | with_reducible exact c26
    | with_reducible exact c27
    | with_reducible exact zC7
    | (as_aux_lemma => kernel_rfl)
theorem inst : Try.f37.isInstance Try.pinned.checked.prog Rows.circBackRow.origin Rows.circBackRow.targs := (of_decide_eq_true (by kernel_rfl))
theorem wrapper : Try.f37.isWrapper Try.pinned.checked.prog Rows.circBackRow.wrapper Rows.circBackRow.mainSum := by
  unfold Func.isWrapper
  first | (rw [if_pos (by decide +kernel)]; kernel_rfl) | (rw [if_neg (by decide +kernel)]; exact ⟨rfl, rfl⟩)
theorem over : Rows.circBackRow.holds Try.pinned (OpenSpec.ofChange Rows.circBackSpec) :=
  OpenClaim.holds_of_wide 37 Try.f37 rfl rfl rfl rfl rfl rfl rfl ⟨rfl, rfl, rfl, rfl, rfl⟩ rfl rfl rfl rfl rfl named Try.func37 closed inst wrapper
    (fun os started H enc _ => lifted os started H enc)
end Go.Proofs.Ytgimohchocjgcaa.V.circBack
namespace Go.Proofs.Ytgimohchocjgcaa
theorem circBack_holds : Rows.CircBackSaid := V.circBack.over
#print axioms circBack_holds
end Go.Proofs.Ytgimohchocjgcaa
