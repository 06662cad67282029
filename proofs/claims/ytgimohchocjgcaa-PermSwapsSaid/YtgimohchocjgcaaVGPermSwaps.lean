import Derived.Test.YtgimohchocjgcaaVRW
import Derived.Test.YtgimohchocjgcaaVPW5
import Derived.Test.YtgimohchocjgcaaVOS
set_option linter.unusedVariables false
set_option linter.unusedSimpArgs false
namespace Go.Proofs.Ytgimohchocjgcaa.V.permSwaps
open Go.ChangeShapes Go.WideShapes Go.ChangeAt Go.RowKit
set_option maxRecDepth 100000 in
theorem runs (N : Nat) (x : TKs ([KQ.vec .fr 12, KQ.any K.u8, KQ.any K.u8, KQ.any K.fr, KQ.any K.fr].map KQ.k)) : runFn pd (fun f => look f (env21 N)) Try.f21 (decUs [K.bool]) (mkLp pd (fun f => look f (env21 N)) (finish pd Try.f21 (decUs [K.bool])) N tab21 4) (encKs ([KQ.vec .fr 12, KQ.any K.u8, KQ.any K.u8, KQ.any K.fr, KQ.any K.fr].map KQ.k) x) = p21 N x.1 x.2.1 x.2.2.1 x.2.2.2.1 x.2.2.2.2.1 := by kernel_rfl
set_option maxRecDepth 100000 in
theorem lifted (os : Os) (started : os.Started) (H : Type) (enc : TypeId × Value → H) :
    ReturnsInHanded {} Try.checked os 21 .any (Rows.permSwapsSpec.pre6 enc Try.prog Try.f21 Rows.permSwapsRow.domain false) (Rows.permSwapsSpec.post enc Try.prog Try.f21 false true false false) := by
  refine returnsInHanded_of_change (C := Try.checked) own started (by kernel_rfl) Try.func21
    (ChangeSpec.witness6 (enc := enc) (C := Try.checked) false ⟨#[], #[.agg #[.int .u64 0, .int .u64 0, .int .u64 0, .int .u64 0, .int .u64 0, .int .u64 0, .int .u64 0, .int .u64 0, .int .u64 0, .int .u64 0, .int .u64 0, .int .u64 0, .int .u64 0, .int .u64 0, .int .u64 0, .int .u64 0, .int .u64 0, .int .u64 0, .int .u64 0, .int .u64 0, .int .u64 0, .int .u64 0, .int .u64 0, .int .u64 0, .int .u64 0, .int .u64 0, .int .u64 0, .int .u64 0, .int .u64 0, .int .u64 0, .int .u64 0, .int .u64 0, .int .u64 0, .int .u64 0, .int .u64 0, .int .u64 0, .int .u64 0, .int .u64 0, .int .u64 0, .int .u64 0, .int .u64 0, .int .u64 0, .int .u64 0, .int .u64 0, .int .u64 0, .int .u64 0, .int .u64 0, .int .u64 0], .int .u8 0, .int .u8 0, .agg #[.int .u64 0, .int .u64 0, .int .u64 0, .int .u64 0], .agg #[.int .u64 0, .int .u64 0, .int .u64 0, .int .u64 0]], []⟩ 8 (by kernel_rfl) (by kernel_rfl) (by kernel_rfl) (by kernel_rfl)) ?_
  intro W base args ds gs before hval hW hcnd _
  have hW' := hW
  obtain ⟨p, q, hA, hV, _⟩ := hW'
  have hp : Try.f21.params.toList = [93, 5, 5, 53, 53] := rfl
  have hlen := trodAll_len hA
  rw [hp] at hlen
  have hA' : DataW.TrodAll enc Try.prog W 0 (fun _ => true) true Try.f21.params.toList args.toList ds p := hA
  obtain ⟨x, hq, hx⟩ := opens_argsQ (base := base) (ks := [KQ.vec .fr 12, KQ.any K.u8, KQ.any K.u8, KQ.any K.fr, KQ.any K.fr]) (ts := Try.f21.params.toList) ⟨oq93, oq5, oq5, oq53, oq53, trivial⟩ hA' (fun j t v hj hw => hval j t v (by rw [← Array.getElem?_toList]; exact hj) (by rw [← Array.getElem?_toList]; exact hw))
  obtain ⟨d0, d1, d2, d3, d4, rfl⟩ : ∃ d0 d1 d2 d3 d4, ds = [d0, d1, d2, d3, d4] := by
    match ds, hlen with
    | [d0, d1, d2, d3, d4], _ => exact ⟨_, _, _, _, _, rfl⟩
  have hcall := sgK_calls1 pd_ok (env_look (env21_ok 2000)) Try.func21 (name_ne (by kernel_rfl)) ([KQ.vec .fr 12, KQ.any K.u8, KQ.any K.u8, KQ.any K.fr, KQ.any K.fr].map KQ.k) (fun x => p21 2000 x.1 x.2.1 x.2.2.1 x.2.2.2.1 x.2.2.2.2.1) 2000 tab21 4 (runs 2000)
    x (by rw [p21_t]; exact perm_swaps_plain _ _ _ _ _ hq.1) W args.toList (fun b => b < W.heap.size) (fun _ h => h) hx
  rw [Array.toArray_toList] at hcall
  refine hcall.mono fun e W' ⟨he, hk⟩ => ⟨.bool true, he, ?_⟩
  exact law_post laid (by decide +kernel) rfl (tb := 4) rfl Try.underlying4 rfl hW hk
theorem named : Try.pinned.checked.prog.funcNamed Rows.permSwapsRow.func = some 21 := by kernel_rfl
theorem c3 : (Try.f21.params.all fun x => Try.pinned.checked.prog.readableRec x) = true := by kernel_rfl
theorem c9 : (Rows.permSwapsRow.inPlace == Try.pinned.checked.prog.inPlace 21) = true := by kernel_rfl
theorem c10 : (Rows.permSwapsRow.unfollowed == Try.pinned.checked.prog.unfollowed 21) = true := by kernel_rfl
theorem c11 : (Rows.permSwapsRow.recurses == Try.pinned.checked.prog.recurses 21) = true := by kernel_rfl
theorem c12 : (Rows.permSwapsRow.named == Try.pinned.checked.prog.varsNamed 21) = true := by kernel_rfl
theorem c26 : (Rows.permSwapsRow.lifted == Try.pinned.checked.prog.liftsFinal) = true := by
  have h : Try.pinned.checked.prog.liftsFinal = false := lifts_final
  rw [h]; rfl
theorem c27 : (Try.pinned.checked.prog.make == some Rows.permSwapsRow.make) = true := by
  have h : Try.pinned.checked.prog.make = some .cut := make_is
  rw [h]; rfl
set_option maxRecDepth 100000 in
theorem closed : joinedFacts Try.pinned.checked.prog 21 Try.f21 Rows.permSwapsSpec Rows.permSwapsRow = true := by
  unfold joinedFacts
  repeat' (with_reducible apply both)
  all_goals first
    | with_reducible exact laid
    | with_reducible exact rowed
    | with_reducible exact c3
    | with_reducible exact c9
    | with_reducible exact c10
    | with_reducible exact c11
    | with_reducible exact c12
    | with_reducible exact may_enter'
    | with_reducible exact c26
    | with_reducible exact c27
    | with_reducible exact heard
    | (as_aux_lemma => kernel_rfl)
theorem inst : Try.f21.isInstance Try.pinned.checked.prog Rows.permSwapsRow.origin Rows.permSwapsRow.targs := (of_decide_eq_true (by kernel_rfl))
theorem wrapper : Try.f21.isWrapper Try.pinned.checked.prog Rows.permSwapsRow.wrapper Rows.permSwapsRow.mainSum := by
  unfold Func.isWrapper
  first | (rw [if_pos (by decide +kernel)]; kernel_rfl) | (rw [if_neg (by decide +kernel)]; exact ⟨rfl, rfl⟩)
theorem over : Rows.permSwapsRow.holds Try.pinned (OpenSpec.ofChange Rows.permSwapsSpec) :=
  OpenClaim.holds_of_wide 21 Try.f21 rfl rfl rfl rfl rfl rfl rfl ⟨rfl, rfl, rfl, rfl, rfl⟩ rfl rfl rfl rfl rfl named Try.func21 closed inst wrapper
    (fun os started H enc _ => lifted os started H enc)
end Go.Proofs.Ytgimohchocjgcaa.V.permSwaps
namespace Go.Proofs.Ytgimohchocjgcaa
theorem permSwaps_holds : Rows.PermSwapsSaid := V.permSwaps.over
#print axioms permSwaps_holds
end Go.Proofs.Ytgimohchocjgcaa
