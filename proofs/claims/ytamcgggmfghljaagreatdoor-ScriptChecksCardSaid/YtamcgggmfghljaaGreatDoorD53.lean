/- ScriptChecks: the closed facts of its row. -/
import Derived.Test.YtamcgggmfghljaaGreatDoorD52
set_option maxRecDepth 100000
set_option maxHeartbeats 8000000
open Go.Proofs.Tryz
namespace Go.Proofs.YtamcgggmfghljaaGreatDoor
namespace scriptChecks
theorem zv6:(Rows.scriptChecksRow.inPlace==prog.inPlace 3)=true:=by kernel_rfl
theorem zmt:(Rows.scriptChecksRow.unfollowed==prog.unfollowed 3)=true:=by kernel_rfl
theorem zsr:(Rows.scriptChecksRow.recurses==prog.recurses 3)=true:=by kernel_rfl
theorem fNamed:(Rows.scriptChecksRow.named==prog.varsNamed 3)=true:=by kernel_rfl
theorem zxa:joinedFacts Tryz.pinned.checked.prog 3 Tryz.f3 (OpenSpec.ofChange Rows.scriptChecksSpec).bare Rows.scriptChecksRow=true:=by
 unfold joinedFacts
 simp only [Bool.and_eq_true]
 exact ⟨⟨⟨⟨⟨⟨⟨⟨⟨⟨⟨⟨⟨⟨⟨⟨⟨⟨⟨⟨⟨⟨⟨⟨⟨⟨⟨⟨⟨⟨⟨(by as_aux_lemma=>kernel_rfl),facts.laid⟩,facts.rowed⟩,(by as_aux_lemma=>kernel_rfl)⟩,(by as_aux_lemma=>kernel_rfl)⟩,(by as_aux_lemma=>kernel_rfl)⟩,(by as_aux_lemma=>kernel_rfl)⟩,(by as_aux_lemma=>kernel_rfl)⟩,(by as_aux_lemma=>kernel_rfl)⟩,zv6⟩,zmt⟩,zsr⟩,fNamed⟩,(by as_aux_lemma=>kernel_rfl)⟩,(by as_aux_lemma=>kernel_rfl)⟩,(by as_aux_lemma=>kernel_rfl)⟩,(by as_aux_lemma=>kernel_rfl)⟩,(by as_aux_lemma=>kernel_rfl)⟩,(by as_aux_lemma=>kernel_rfl)⟩,(by as_aux_lemma=>kernel_rfl)⟩,(by as_aux_lemma=>kernel_rfl)⟩,(by as_aux_lemma=>kernel_rfl)⟩,facts.keys⟩,(by as_aux_lemma=>kernel_rfl)⟩,facts.heard⟩,facts.enter⟩,facts.lift⟩,facts.make⟩,(by as_aux_lemma=>kernel_rfl)⟩,(by as_aux_lemma=>kernel_rfl)⟩,(by as_aux_lemma=>kernel_rfl)⟩,(by as_aux_lemma=>kernel_rfl)⟩
end scriptChecks
end Go.Proofs.YtamcgggmfghljaaGreatDoor
