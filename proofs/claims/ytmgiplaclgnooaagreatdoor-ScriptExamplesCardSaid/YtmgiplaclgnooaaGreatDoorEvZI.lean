/- The simple kinds of code. -/
import Derived.Test.YtmgiplaclgnooaaGreatDoorEvZH
set_option maxRecDepth 10000
namespace Go.Proofs.YtmgiplaclgnooaaGreatDoor
namespace Ev
variable {P : Program} {r : Ren} {h : H} {w : World} {n : Nat} {t : T Value} {a : Act} {ex : CodeF} {ro ro' : Option Nat} {x : Ex} {t' : T Value} {D D' : List Nat} {h' : H}
theorem body_seq (hex : ExOk P ex) {c d : Code} (hv : body P ex ro n (.seq c d) t D h = .ok x t' D' h') (hr : HR r h w) (ha : AR r h n t a) (hd : DR r D a.defers) (ho : RoR r ro ro') : Runs P ro' (.seq c d) a w (At r h w n x t' D' h') := by
  simp only [body] at hv
  refine runs_seq ?_
  cases hq : ex ro n c t D h with
  | bad => rw [hq] at hv; cases hv
  | ok x1 t1 D1 h1 =>
    rw [hq] at hv
    refine ((hex _ _ _ _ _ _ _ _ _ _ hq r w a ro' hr ha hd ho).runs).mono fun y a1 w1 hy => ?_
    have hy' := hy
    obtain ⟨rfl, r1, s1, a1', d1⟩ := hy
    cases y with
    | normal =>
      simp only [] at hv
      exact ((hex _ _ _ _ _ _ _ _ _ _ hv r1 w1 a1 ro' s1.hr a1' d1 (ho.ext s1.ext)).runs).mono fun _ _ _ q => q.step s1
    | exit i => simp only [R.ok.injEq] at hv; obtain ⟨rfl, rfl, rfl, rfl⟩ := hv; exact hy'
    | ret => simp only [R.ok.injEq] at hv; obtain ⟨rfl, rfl, rfl, rfl⟩ := hv; exact hy'
theorem body_block (hex : ExOk P ex) {id : Nat} {c : Code} (hv : body P ex ro n (.block id c) t D h = .ok x t' D' h') (hr : HR r h w) (ha : AR r h n t a) (hd : DR r D a.defers) (ho : RoR r ro ro') : Runs P ro' (.block id c) a w (At r h w n x t' D' h') := by
  simp only [body] at hv
  refine runs_block ?_
  cases hq : ex ro n c t D h with
  | bad => rw [hq] at hv; cases hv
  | ok x1 t1 D1 h1 =>
    rw [hq] at hv
    refine ((hex _ _ _ _ _ _ _ _ _ _ hq r w a ro' hr ha hd ho).runs).mono fun y a1 w1 hy => ?_
    have hy' := hy
    obtain ⟨rfl, r1, s1, a1', d1⟩ := hy
    cases y with
    | exit i =>
      simp only [] at hv
      simp only [Ex.inBlock]
      cases hi : Nat.beq i id with
      | true =>
        rw [hi] at hv
        simp only [cond_true, R.ok.injEq] at hv
        obtain ⟨rfl, rfl, rfl, rfl⟩ := hv
        rw [if_pos (Nat.eq_of_beq_eq_true hi)]
        exact ⟨rfl, r1, s1, a1', d1⟩
      | false =>
        rw [hi] at hv
        simp only [cond_false, R.ok.injEq] at hv
        obtain ⟨rfl, rfl, rfl, rfl⟩ := hv
        rw [if_neg (ne_of_beq hi)]
        exact hy'
    | normal => simp only [R.ok.injEq] at hv; obtain ⟨rfl, rfl, rfl, rfl⟩ := hv; exact hy'
    | ret => simp only [R.ok.injEq] at hv; obtain ⟨rfl, rfl, rfl, rfl⟩ := hv; exact hy'
theorem body_loop (hex : ExOk P ex) {c : Code} (hv : body P ex ro n (.loop c) t D h = .ok x t' D' h') (hr : HR r h w) (ha : AR r h n t a) (hd : DR r D a.defers) (ho : RoR r ro ro') : LoopRuns P ro' c a w (At r h w n x t' D' h') := by
  simp only [body] at hv
  refine loop_round ?_
  cases hq : ex ro n c t D h with
  | bad => rw [hq] at hv; cases hv
  | ok x1 t1 D1 h1 =>
    rw [hq] at hv
    refine ((hex _ _ _ _ _ _ _ _ _ _ hq r w a ro' hr ha hd ho).runs).mono fun y a1 w1 hy => ?_
    have hy' := hy
    obtain ⟨rfl, r1, s1, a1', d1⟩ := hy
    cases y with
    | normal =>
      simp only [] at hv
      have := hex _ _ _ _ _ _ _ _ _ _ hv r1 w1 a1 ro' s1.hr a1' d1 (ho.ext s1.ext)
      exact fun b k cs hk hro => (this b k cs hk hro).imp id fun ⟨x, a', w', q, f⟩ => ⟨x, a', w', q.step s1, f⟩
    | exit i => simp only [R.ok.injEq] at hv; obtain ⟨rfl, rfl, rfl, rfl⟩ := hv; exact hy'
    | ret => simp only [R.ok.injEq] at hv; obtain ⟨rfl, rfl, rfl, rfl⟩ := hv; exact hy'
theorem body_cond (hex : ExOk P ex) {c : Operand} {d e : Code} (hv : body P ex ro n (.cond c d e) t D h = .ok x t' D' h') (hr : HR r h w) (ha : AR r h n t a) (hd : DR r D a.defers) (ho : RoR r ro ro') : Runs P ro' (.cond c d e) a w (At r h w n x t' D' h') := by
  simp only [body] at hv
  split at hv
  · rename_i q hq
    have hc : a.eval c = .bool q := by
      cases c with
      | tmp i =>
        have := ha.t i
        simp only [evT] at hq
        rw [hq] at this
        exact this.to_bool
      | const u => exact hq
      | global g => simp [evT] at hq
      | func g => simp [evT] at hq
    refine runs_cond hc ?_
    cases q with
    | true => exact (hex _ _ _ _ _ _ _ _ _ _ hv r w a ro' hr ha hd ho).runs
    | false => exact (hex _ _ _ _ _ _ _ _ _ _ hv r w a ro' hr ha hd ho).runs
  · cases hv
theorem body_region (hcf : CfOk P (callF P ex)) (hyf : YfOk P (yieldF ex)) {id : Nat} {ops : Array Oper} (hv : body P ex ro n (.region id ops false) t D h = .ok x t' D' h') (hr : HR r h w) (ha : AR r h n t a) (hd : DR r D a.defers) : Runs P ro' (.region id ops false) a w (At r h w n x t' D' h') := by
  simp only [body, cond_false] at hv
  intro b k cs hk hro
  obtain ⟨rfl, rfl, h3⟩ := runOps_ok (k := k) (cs := cs) hcf hyf ops D hk ops.toList 0 r h w t a rfl hr ha hv
  have hrg : List.range ops.size = List.range' 0 ops.toList.length := by rw [List.range_eq_range', Array.length_toList]
  have hst : Steps P (lone (b.atR a (.code (.region id ops false) :: k)) cs w) (lone (b.atR a (.inRegion ops (List.range' 0 ops.toList.length) :: k)) cs w) := by
    have := stepR_region (P := P) (b := b) (a := a) (k := k) (cs := cs) (w := w) (ops := ops) (id := id)
    rw [hrg] at this
    exact .one this
  refine Goes.of_steps hst ?_
  rcases h3 with h3 | ⟨r2, a2, w2, f1, f2, f3, f4⟩
  · exact .inl h3
  · exact .inr ⟨.normal, a2, w2, ⟨rfl, r2, f1, f2, by rw [f3]; exact hd.ext f1.ext⟩, f4.trans (.one stepR_region_end)⟩
end Ev
end Go.Proofs.YtmgiplaclgnooaaGreatDoor
