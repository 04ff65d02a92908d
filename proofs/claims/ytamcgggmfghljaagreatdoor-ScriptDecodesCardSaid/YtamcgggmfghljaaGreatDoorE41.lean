/- walk -/
import Derived.Test.YtamcgggmfghljaaGreatDoorE40
set_option maxRecDepth 100000
set_option maxHeartbeats 8000000
open Go.Proofs.Tryz
namespace Go.Proofs.YtamcgggmfghljaaGreatDoor

namespace scriptDecodes
theorem z0h:(Rows.scriptDecodesRow.inPlace==prog.inPlace 7)=true:=by kernel_rfl
theorem zpw:(Rows.scriptDecodesRow.unfollowed==prog.unfollowed 7)=true:=by kernel_rfl
theorem zw2:(Rows.scriptDecodesRow.recurses==prog.recurses 7)=true:=by kernel_rfl
theorem fNamed:(Rows.scriptDecodesRow.named==prog.varsNamed 7)=true:=by kernel_rfl
theorem z1d:joinedFacts Tryz.pinned.checked.prog 7 Tryz.f7 (OpenSpec.ofChange Rows.scriptDecodesSpec).bare Rows.scriptDecodesRow=true:=by
 unfold joinedFacts;simp only[ji];exact ⟨⟨⟨⟨⟨⟨⟨⟨⟨⟨⟨⟨⟨⟨⟨⟨⟨⟨⟨⟨⟨⟨⟨⟨⟨⟨⟨⟨⟨⟨⟨(by as_aux_lemma=>kernel_rfl),facts.laid⟩,facts.rowed⟩,(by as_aux_lemma=>kernel_rfl)⟩,(by as_aux_lemma=>kernel_rfl)⟩,(by as_aux_lemma=>kernel_rfl)⟩,(by as_aux_lemma=>kernel_rfl)⟩,(by as_aux_lemma=>kernel_rfl)⟩,(by as_aux_lemma=>kernel_rfl)⟩,z0h⟩,zpw⟩,zw2⟩,fNamed⟩,(by as_aux_lemma=>kernel_rfl)⟩,(by as_aux_lemma=>kernel_rfl)⟩,(by as_aux_lemma=>kernel_rfl)⟩,(by as_aux_lemma=>kernel_rfl)⟩,(by as_aux_lemma=>kernel_rfl)⟩,(by as_aux_lemma=>kernel_rfl)⟩,(by as_aux_lemma=>kernel_rfl)⟩,(by as_aux_lemma=>kernel_rfl)⟩,(by as_aux_lemma=>kernel_rfl)⟩,facts.keys⟩,(by as_aux_lemma=>kernel_rfl)⟩,facts.heard⟩,facts.enter⟩,facts.lift⟩,facts.make⟩,(by as_aux_lemma=>kernel_rfl)⟩,(by as_aux_lemma=>kernel_rfl)⟩,(by as_aux_lemma=>kernel_rfl)⟩,(by as_aux_lemma=>kernel_rfl)⟩
end scriptDecodes
end Go.Proofs.YtamcgggmfghljaaGreatDoor
