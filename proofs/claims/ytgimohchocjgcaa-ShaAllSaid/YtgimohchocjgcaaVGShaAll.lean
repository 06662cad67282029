import Derived.Test.YtgimohchocjgcaaVRW
import Derived.Test.YtgimohchocjgcaaVOP
import Derived.Test.YtgimohchocjgcaaVOS
set_option linter.unusedVariables false
set_option linter.unusedSimpArgs false
namespace Go.Proofs.Ytgimohchocjgcaa.V.shaAll
open Go.ChangeShapes Go.WideShapes Go.ChangeAt Go.RowKit
set_option maxRecDepth 100000 in
theorem runs (N : Nat) (x : TKs ([KQ.any (K.ro .u8), KQ.vec .u32 8, KQ.vec .u8 64].map KQ.k)) : zgV pd (fun f => look f (env4 N)) Try.f4 (zcD [K.bool]) (mkLp pd (fun f => look f (env4 N)) (zbp pd Try.f4 (zcD [K.bool])) N tab4 4) (ze2 ([KQ.any (K.ro .u8), KQ.vec .u32 8, KQ.vec .u8 64].map KQ.k) x) = p4 N x.1 x.2.1 x.2.2.1 := by kernel_rfl
set_option maxRecDepth 100000 in
theorem lifted (os : Os) (started : os.Started) (H : Type) (enc : TypeId × Value -> H) :
    ReturnsInHanded {} Try.checked os 4 .any (Rows.shaAllSpec.pre6 enc Try.prog Try.f4 Rows.shaAllRow.domain false) (Rows.shaAllSpec.post enc Try.prog Try.f4 false true false false) := by
  refine returnsInHanded_of_change (C := Try.checked) own started (by kernel_rfl) Try.func4
    (ChangeSpec.witness6 (enc := enc) (C := Try.checked) false ⟨#[], #[.slice none 0 0, .agg #[.int .u32 0, .int .u32 0, .int .u32 0, .int .u32 0, .int .u32 0, .int .u32 0, .int .u32 0, .int .u32 0], .agg #[.int .u8 0, .int .u8 0, .int .u8 0, .int .u8 0, .int .u8 0, .int .u8 0, .int .u8 0, .int .u8 0, .int .u8 0, .int .u8 0, .int .u8 0, .int .u8 0, .int .u8 0, .int .u8 0, .int .u8 0, .int .u8 0, .int .u8 0, .int .u8 0, .int .u8 0, .int .u8 0, .int .u8 0, .int .u8 0, .int .u8 0, .int .u8 0, .int .u8 0, .int .u8 0, .int .u8 0, .int .u8 0, .int .u8 0, .int .u8 0, .int .u8 0, .int .u8 0, .int .u8 0, .int .u8 0, .int .u8 0, .int .u8 0, .int .u8 0, .int .u8 0, .int .u8 0, .int .u8 0, .int .u8 0, .int .u8 0, .int .u8 0, .int .u8 0, .int .u8 0, .int .u8 0, .int .u8 0, .int .u8 0, .int .u8 0, .int .u8 0, .int .u8 0, .int .u8 0, .int .u8 0, .int .u8 0, .int .u8 0, .int .u8 0, .int .u8 0, .int .u8 0, .int .u8 0, .int .u8 0, .int .u8 0, .int .u8 0, .int .u8 0, .int .u8 0]], []⟩ 8 (by kernel_rfl) (by kernel_rfl) (by kernel_rfl) (by kernel_rfl)) ?_
  intro W base args ds gs before hval hW hcnd _
  have hW' := hW
  obtain ⟨p, q, hA, hV, _⟩ := hW'
  have hp : Try.f4.params.toList = [24, 28, 29] := rfl
  have hlen := zfe hA
  rw [hp] at hlen
  have hA' : DataW.TrodAll enc Try.prog W 0 (fun _ => true) true Try.f4.params.toList args.toList ds p := hA
  obtain ⟨x, hq, hx⟩ := zfi (base := base) (ks := [KQ.any (K.ro .u8), KQ.vec .u32 8, KQ.vec .u8 64]) (ts := Try.f4.params.toList) ⟨oq24, oq28, oq29, trivial⟩ hA' (fun j t v hj hw => hval j t v (by rw [← Array.getElem?_toList]; exact hj) (by rw [← Array.getElem?_toList]; exact hw))
  obtain ⟨d0, d1, d2, rfl⟩ : ∃ d0 d1 d2, ds = [d0, d1, d2] := by
    match ds, hlen with
    | [d0, d1, d2], _ => exact ⟨_, _, _, rfl⟩
  have hcall := zkz zbR (zan (zqv 2000)) Try.func4 (zav (by kernel_rfl)) ([KQ.any (K.ro .u8), KQ.vec .u32 8, KQ.vec .u8 64].map KQ.k) (fun x => p4 2000 x.1 x.2.1 x.2.2.1) 2000 tab4 4 (runs 2000)
    x (by rw [p4_t]; exact zqT _ _ _ hq.2.1 hq.2.2.1) W args.toList (fun b => b < W.heap.size) (fun _ h => h) hx
  rw [Array.toArray_toList] at hcall
  refine hcall.mono fun e W' ⟨he, hk⟩ => ⟨.bool true, he, ?_⟩
  exact zoV laid (by decide +kernel) rfl (tb := 4) rfl Try.underlying4 rfl hW hk
theorem named : Try.pinned.checked.prog.funcNamed Rows.shaAllRow.func = some 4 := by kernel_rfl
theorem c3 : (Try.f4.params.all fun x => Try.pinned.checked.prog.readableRec x) = true := by kernel_rfl
theorem c9 : (Rows.shaAllRow.inPlace == Try.pinned.checked.prog.inPlace 4) = true := by kernel_rfl
theorem c10 : (Rows.shaAllRow.unfollowed == Try.pinned.checked.prog.unfollowed 4) = true := by kernel_rfl
theorem c11 : (Rows.shaAllRow.recurses == Try.pinned.checked.prog.recurses 4) = true := by kernel_rfl
theorem c12 : (Rows.shaAllRow.named == Try.pinned.checked.prog.varsNamed 4) = true := by kernel_rfl
theorem c26 : (Rows.shaAllRow.lifted == Try.pinned.checked.prog.liftsFinal) = true := by
  have h : Try.pinned.checked.prog.liftsFinal = false := zhQ
  rw [h]; rfl
theorem c27 : (Try.pinned.checked.prog.make == some Rows.shaAllRow.make) = true := by
  have h : Try.pinned.checked.prog.make = some .cut := zpq
  rw [h]; rfl
set_option maxRecDepth 100000 in
theorem closed : joinedFacts Try.pinned.checked.prog 4 Try.f4 Rows.shaAllSpec Rows.shaAllRow = true := by
  unfold joinedFacts
  repeat' (with_reducible apply both)
  all_goals first
    | with_reducible exact laid
    | with_reducible exact ztK
    | with_reducible exact c3
    | with_reducible exact c9
    | with_reducible exact c10
    | with_reducible exact c11
    | with_reducible exact c12
    | with_reducible exact zkv
    | with_reducible exact c26
    | with_reducible exact c27
    | with_reducible exact ztL
    | (as_aux_lemma => kernel_rfl)
theorem inst : Try.f4.isInstance Try.pinned.checked.prog Rows.shaAllRow.origin Rows.shaAllRow.targs := (of_decide_eq_true (by kernel_rfl))
theorem wrapper : Try.f4.isWrapper Try.pinned.checked.prog Rows.shaAllRow.wrapper Rows.shaAllRow.mainSum := by
  unfold Func.isWrapper
  first | (rw [if_pos (by decide +kernel)]; kernel_rfl) | (rw [if_neg (by decide +kernel)]; exact ⟨rfl, rfl⟩)
theorem over : Rows.shaAllRow.holds Try.pinned (OpenSpec.ofChange Rows.shaAllSpec) :=
  OpenClaim.holds_of_wide 4 Try.f4 rfl rfl rfl rfl rfl rfl rfl ⟨rfl, rfl, rfl, rfl, rfl⟩ rfl rfl rfl rfl rfl named Try.func4 closed inst wrapper
    (fun os started H enc _ => lifted os started H enc)
end Go.Proofs.Ytgimohchocjgcaa.V.shaAll
namespace Go.Proofs.Ytgimohchocjgcaa
theorem shaAll_holds : Rows.ShaAllSaid := V.shaAll.over
#print axioms shaAll_holds
end Go.Proofs.Ytgimohchocjgcaa
