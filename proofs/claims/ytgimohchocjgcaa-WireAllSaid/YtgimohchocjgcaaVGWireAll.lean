import Derived.Test.YtgimohchocjgcaaVRW
import Derived.Test.YtgimohchocjgcaaVWB13
import Derived.Test.YtgimohchocjgcaaVOS
set_option linter.unusedVariables false
set_option linter.unusedSimpArgs false
namespace Go.Proofs.Ytgimohchocjgcaa.V.wireAll
open Go.ChangeShapes Go.WideShapes Go.ChangeAt Go.RowKit
set_option maxRecDepth 100000 in
theorem runs (N : Nat) (x : TKs ([KQ.any (K.agg [.int, .int, .ro .row, .ro .pair] rfl), KQ.any K.int].map KQ.k)) : runFn pd (fun f => look f (env32 N)) Try.f32 (decUs [K.bool]) (mkLp pd (fun f => look f (env32 N)) (finish pd Try.f32 (decUs [K.bool])) N tab32 4) (encKs ([KQ.any (K.agg [.int, .int, .ro .row, .ro .pair] rfl), KQ.any K.int].map KQ.k) x) = p32 N x.1.1 x.1.2.1 x.1.2.2.1 x.1.2.2.2.1 x.2.1 := by kernel_rfl
set_option maxRecDepth 100000 in
theorem lifted (os : Os) (started : os.Started) (H : Type) (enc : TypeId × Value → H) :
    ReturnsInHanded {} Try.checked os 32 .any (Rows.wireAllSpec.pre6 enc Try.prog Try.f32 Rows.wireAllRow.domain false) (Rows.wireAllSpec.post enc Try.prog Try.f32 false true false false) := by
  refine returnsInHanded_of_change (C := Try.checked) own started (by kernel_rfl) Try.func32
    (ChangeSpec.witness6 (enc := enc) (C := Try.checked) false ⟨#[], #[.agg #[.int .i64 0, .int .i64 0, .slice none 0 0, .slice none 0 0], .int .i64 0], []⟩ 8 (by kernel_rfl) (by kernel_rfl) (by kernel_rfl) (by kernel_rfl)) ?_
  intro W base args ds gs before hval hW hcnd _
  have hW' := hW
  obtain ⟨p, q, hA, hV, _⟩ := hW'
  have hp : Try.f32.params.toList = [80, 3] := rfl
  have hlen := trodAll_len hA
  rw [hp] at hlen
  have hA' : DataW.TrodAll enc Try.prog W 0 (fun _ => true) true Try.f32.params.toList args.toList ds p := hA
  obtain ⟨x, hq, hx⟩ := opens_argsQ (base := base) (ks := [KQ.any (K.agg [.int, .int, .ro .row, .ro .pair] rfl), KQ.any K.int]) (ts := Try.f32.params.toList) ⟨oq80, oq3, trivial⟩ hA' (fun j t v hj hw => hval j t v (by rw [← Array.getElem?_toList]; exact hj) (by rw [← Array.getElem?_toList]; exact hw))
  obtain ⟨d0, d1, rfl⟩ : ∃ d0 d1, ds = [d0, d1] := by
    match ds, hlen with
    | [d0, d1], _ => exact ⟨_, _, rfl⟩
  have hcall := sgK_calls1 pd_ok (env_look (env32_ok 100000)) Try.func32 (name_ne (by kernel_rfl)) ([KQ.any (K.agg [.int, .int, .ro .row, .ro .pair] rfl), KQ.any K.int].map KQ.k) (fun x => p32 100000 x.1.1 x.1.2.1 x.1.2.2.1 x.1.2.2.2.1 x.2.1) 100000 tab32 4 (runs 100000)
    x (by rw [p32_t]; exact wire_all_plain _ _ _ _ _) W args.toList (fun b => b < W.heap.size) (fun _ h => h) hx
  rw [Array.toArray_toList] at hcall
  refine hcall.mono fun e W' ⟨he, hk⟩ => ⟨.bool true, he, ?_⟩
  exact law_post laid (by decide +kernel) rfl (tb := 4) rfl Try.underlying4 rfl hW hk
theorem named : Try.pinned.checked.prog.funcNamed Rows.wireAllRow.func = some 32 := by kernel_rfl
theorem c3 : (Try.f32.params.all fun x => Try.pinned.checked.prog.readableRec x) = true := by kernel_rfl
theorem c9 : (Rows.wireAllRow.inPlace == Try.pinned.checked.prog.inPlace 32) = true := by kernel_rfl
theorem c10 : (Rows.wireAllRow.unfollowed == Try.pinned.checked.prog.unfollowed 32) = true := by kernel_rfl
theorem c11 : (Rows.wireAllRow.recurses == Try.pinned.checked.prog.recurses 32) = true := by kernel_rfl
theorem c12 : (Rows.wireAllRow.named == Try.pinned.checked.prog.varsNamed 32) = true := by kernel_rfl
theorem c26 : (Rows.wireAllRow.lifted == Try.pinned.checked.prog.liftsFinal) = true := by
  have h : Try.pinned.checked.prog.liftsFinal = false := lifts_final
  rw [h]; rfl
theorem c27 : (Try.pinned.checked.prog.make == some Rows.wireAllRow.make) = true := by
  have h : Try.pinned.checked.prog.make = some .cut := make_is
  rw [h]; rfl
set_option maxRecDepth 100000 in
theorem closed : joinedFacts Try.pinned.checked.prog 32 Try.f32 Rows.wireAllSpec Rows.wireAllRow = true := by
  unfold joinedFacts
  repeat' (with_reducible apply both)
  all_goals first
    | with_reducible exact laid
    | with_reducible exact rowed
    | with_reducible exact c3
    | with_reducible exact c9
    | with_reducible exact c10
    | with_reducible exact c11
    | with_reducible exact c12
    | with_reducible exact may_enter'
    | with_reducible exact c26
    | with_reducible exact c27
    | with_reducible exact heard
    | (as_aux_lemma => kernel_rfl)
theorem inst : Try.f32.isInstance Try.pinned.checked.prog Rows.wireAllRow.origin Rows.wireAllRow.targs := (of_decide_eq_true (by kernel_rfl))
theorem wrapper : Try.f32.isWrapper Try.pinned.checked.prog Rows.wireAllRow.wrapper Rows.wireAllRow.mainSum := by
  unfold Func.isWrapper
  first | (rw [if_pos (by decide +kernel)]; kernel_rfl) | (rw [if_neg (by decide +kernel)]; exact ⟨rfl, rfl⟩)
theorem over : Rows.wireAllRow.holds Try.pinned (OpenSpec.ofChange Rows.wireAllSpec) :=
  OpenClaim.holds_of_wide 32 Try.f32 rfl rfl rfl rfl rfl rfl rfl ⟨rfl, rfl, rfl, rfl, rfl⟩ rfl rfl rfl rfl rfl named Try.func32 closed inst wrapper
    (fun os started H enc _ => lifted os started H enc)
end Go.Proofs.Ytgimohchocjgcaa.V.wireAll
namespace Go.Proofs.Ytgimohchocjgcaa
theorem wireAll_holds : Rows.WireAllSaid := V.wireAll.over
#print axioms wireAll_holds
end Go.Proofs.Ytgimohchocjgcaa
