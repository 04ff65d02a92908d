/- Our own machine's steps over a string and map writes. -/
import Derived.Test.YtmgiplaclgnooaaGreatDoorEvZ
set_option maxRecDepth 10000
namespace Go.Proofs.YtmgiplaclgnooaaGreatDoor
namespace Ev
variable {P : Program} {r : Ren} {h : H} {w : World} {n : Nat} {t : T Value} {a : Act} {o : Oper}
theorem ef_next (hr : HR r h w) (ha : AR r h n t a) {it : Operand} (ho : o.op = .next it true) {b : Nat} (hx : evO h.g t it = some (.pointer (some ⟨b, 0, none⟩))) {s : ByteArray} {pos : Nat} (hb : h.get b = some (.sit s pos)) (hlo : h.lo ≤ b) :
    (pos < s.size → StOk P r h w o a (.tuple #[.bool true, goInt pos, .int .i32 (Utf8.decode s pos).1]) (h.set b (.sit s (pos + (Utf8.decode s pos).2)))) ∧
    (¬ pos < s.size → StOk P r h w o a (.tuple #[.bool false]) h) := by
  have h1 := evO_ok hr ha hx
  generalize hq : a.eval it = z at h1
  cases h1 with
  | ptr he =>
    rename_i e
    obtain ⟨e', p1, hlt, p2, p3⟩ := hr.blk b _ hb
    rw [he] at p1; cases p1
    refine ⟨fun hp => ?_, fun hp => ?_⟩
    · have hs : Step r h w r (h.set b (.sit s (pos + (Utf8.decode s pos).2))) { w with heap := w.heap.setIfInBounds e.blk (.stringIter s (pos + (Utf8.decode s pos).2)) } :=
        HR.set_ hr hb he hlo (by simp) (fun k hk => by simp [Ne.symm hk]) rfl rfl rfl ⟨p2, by simp [hlt]⟩
      refine ⟨r, _, _, hs, VR.of_plain r _ rfl, .inl ?_⟩
      simp [execOp, ho, hq, Instr.next, getObj, setObj, Sem.run, p2, p3, hp]
    · refine ⟨r, _, w, Step.refl hr, VR.of_plain r _ rfl, .inl ?_⟩
      simp [execOp, ho, hq, Instr.next, getObj, setObj, Sem.run, p2, p3, hp]
end Ev
end Go.Proofs.YtmgiplaclgnooaaGreatDoor
