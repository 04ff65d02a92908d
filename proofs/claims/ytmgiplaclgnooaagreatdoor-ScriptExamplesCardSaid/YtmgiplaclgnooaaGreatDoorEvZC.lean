/- Our own machine's map writes. -/
import Derived.Test.YtmgiplaclgnooaaGreatDoorEvZB
set_option maxRecDepth 10000
namespace Go.Proofs.YtmgiplaclgnooaaGreatDoor
namespace Ev
variable {P : Program} {r : Ren} {h : H} {w : World} {n : Nat} {t : T Value} {a : Act} {o : Oper}
theorem ER.modify {es es' : List MapEntry} (he : ER r es es') {k v v' : Value} (hk : plain k = true) (hv : VR r v v') : ∀ i : Nat,
    ER r (es.modify i fun e => { e with key := k, val := v }) (es'.modify i fun e => { e with key := k, val := v' }) := by
  induction he with
  | nil => intro i; cases i <;> exact .nil
  | cons g1 g2 g3 g4 g5 ih =>
    intro i
    cases i with
    | zero => simp only [List.modify_zero_cons]; exact .cons hk rfl g3 hv g5
    | succ i => simp only [List.modify_succ_cons]; exact .cons g1 g2 g3 g4 (ih i)
theorem ER.snoc {es es' : List MapEntry} (he : ER r es es') {k v v' : Value} {c : Nat} (hk : plain k = true) (hv : VR r v v') : ER r (es ++ [{ key := k, val := v, born := c }]) (es' ++ [{ key := k, val := v', born := c }]) := by
  induction he with
  | nil => exact .cons hk rfl rfl hv .nil
  | cons g1 g2 g3 g4 _ ih => exact .cons g1 g2 g3 g4 ih
theorem ER.keyAt {es es' : List MapEntry} (he : ER r es es') : ∀ i : Nat, (es'[i]?).map (·.key) = (es[i]?).map (·.key) := by
  induction he with
  | nil => intro i; rfl
  | cons _ g2 _ _ _ ih =>
    intro i
    cases i with
    | zero => simp [g2]
    | succ i => simpa using ih i
theorem ef_map (hr : HR r h w) (ha : AR r h n t a) {ty : TypeId} {m k x : Operand} (ho : o.op = .mapUpdate ty m k x ∨ o.op = .insert ty m k x) {mv kv xv : Value} (hm : evO h.g t m = some mv) (hk : evO h.g t k = some kv) (hx : evO h.g t x = some xv)
    {h' : H} (hp : mapPut P ty mv kv xv h = some h') : StOk P r h w o a undef h' := by
  have h1 := evO_ok hr ha hm
  have h3 := evO_ok hr ha hx
  unfold mapPut at hp
  simp only [inf_eq, und_eq] at hp
  split at hp
  · rename_i kt et b hu
    obtain ⟨hc, hp⟩ := bif_some hp
    simp only [Bool.and_eq_true] at hc
    have h2 := (evO_ok hr ha hk).plain hc.1
    have hlo := Nat.le_of_ble_eq_true hc.2
    split at hp
    · rename_i es clock hb
      generalize hq : a.eval m = m' at h1
      generalize hqx : a.eval x = x' at h3
      cases h1 with
      | map he =>
        rename_i e
        obtain ⟨e', p1, hlt, es', p2, p3⟩ := hr.blk b _ hb
        rw [he] at p1; cases p1
        have key : ∀ (es2 : List MapEntry) (es2' : Array MapEntry) (c2 : Nat), ER r es2 es2'.toList →
            ((Instr.mapUpdate ty (.map (some e.blk)) kv x').run P w = .ok () { w with heap := w.heap.setIfInBounds e.blk (.map es2' c2) }) → StOk P r h w o a undef (h.set b (.map es2 c2)) := fun es2 es2' c2 q1 q2 => by
          have hs : Step r h w r (h.set b (.map es2 c2)) { w with heap := w.heap.setIfInBounds e.blk (.map es2' c2) } :=
            HR.set_ hr hb he hlo (by simp) (fun k hk => by simp [Ne.symm hk]) rfl rfl rfl ⟨es2', by simp [hlt], q1⟩
          refine ⟨r, _, _, hs, VR.of_plain r _ rfl, .inr ⟨?_, rfl⟩⟩
          rcases ho with ho | ho <;> simp [execOp, ho, hq, hqx, h2, q2]
        have hg : (getObj e.blk).run P w = .ok (.map es' clock) w := by simp [getObj, Sem.run, p2]
        split at hp
        · rename_i u i y hck hka
          have hck := pureR_run _ hck
          obtain ⟨y', r1, r2⟩ := keyAt_ok p3 hka
          split at hp
          · rename_i old hold
            obtain ⟨hsb, hp⟩ := bif_some hp
            have hp := Option.some.inj hp
            subst hp
            cases r1 with
            | some hvy =>
              have hk' : (es'[i]?).map (·.key) = some old := by
                have := p3.keyAt i
                rw [Array.getElem?_toList] at this
                rw [this, hold]
              refine key _ (es'.modify i fun e => { e with key := kv, val := x' }) _ (by rw [Array.toList_modify]; exact p3.modify hc.1 h3 i) ?_
              simp [Instr.mapUpdate, Sem.run_bind, run_underlying hu, hg, hck w, r2 w, Instr.keyThatStays, hk', hsb, setObj, Sem.run, p2]
          · cases hp
        · rename_i u hck hka
          have hck := pureR_run _ hck
          obtain ⟨y', r1, r2⟩ := keyAt_ok p3 hka
          have hp := Option.some.inj hp
          subst hp
          cases r1
          refine key _ (es'.push { key := kv, val := x', born := clock }) _ (by rw [Array.toList_push]; exact p3.snoc hc.1 h3) ?_
          simp [Instr.mapUpdate, Sem.run_bind, run_underlying hu, hg, hck w, r2 w, setObj, Sem.run, p2]
        · cases hp
    · cases hp
  · cases hp
end Ev
end Go.Proofs.YtmgiplaclgnooaaGreatDoor
