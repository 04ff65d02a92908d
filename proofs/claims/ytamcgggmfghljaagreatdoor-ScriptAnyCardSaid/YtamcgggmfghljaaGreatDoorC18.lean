/- Layer 7: the rules one after the other. No program in sight. · Layer 7 (program): Tokens. -/
import Derived.Deep.QuietTactic
import Derived.BigQuiet
import Derived.Laws.EntriesVeiled
import Derived.Test.YtamcgggmfghljaaGreatDoorC7
import Derived.Test.YtamcgggmfghljaaGreatDoorC17
set_option maxRecDepth 100000
set_option maxHeartbeats 8000000
namespace Go.Proofs.YtamcgggmfghljaaGreatDoor
open Go.RowKit
def tryS (s : Bytes) (i : Nat) : Nat → Tok × Nat
  | 0 => numberS s i
  | 1 => textS s i
  | 2 => wordS s i
  | 3 => failS s i
  | _ => signS s i
theorem endQ_lt (s : Bytes) : ∀ f k r, endQ s f k = some r → r < s.length
  | 0, _, _, h => by simp [endQ] at h
  | f + 1, k, r, h => by
    unfold endQ at h
    split at h
    · cases h
    · split at h
      · exact endQ_lt s f _ r h
      · split at h
        · exact endQ_lt s f _ r h
        · cases h; omega
theorem failL_le (s : Bytes) (i : Nat) : ∀ (l : List Bytes) (c : Int), (failL s i c l).2 ≤ s.length
  | [], c => by simp [failL]
  | x :: l, c => by
    unfold failL
    split
    · rename_i h; simp; omega
    · exact failL_le s i l _
theorem opsL_le (s : Bytes) (i : Nat) : ∀ (l : List (Bytes × Int)) r, opsL s i l = some r → r.2 ≤ s.length
  | [], r, h => by simp [opsL] at h
  | (x, n) :: l, r, h => by
    unfold opsL at h
    split at h
    · rename_i hp
      cases h
      have := (List.isPrefixOf_iff_prefix.1 hp).length_le
      simp at this ⊢
      omega
    · exact opsL_le s i l r h
theorem try_le (s : Bytes) (i k : Nat) : (tryS s i k).2 ≤ 2 * s.length + 1 := by
  have hl : ∀ p j, lenB p s j ≤ s.length := fun p j => Nat.le_trans (lenB_at p s j) (by omega)
  have hp : ∀ j, (plainS s j).length ≤ s.length := fun j => by unfold plainS; simp; omega
  unfold tryS
  split
  · have h1 := hl digB i
    have h2 := hl digB (i + lenB digB s i + 1)
    unfold numberS
    repeat' split
    all_goals try (simp; done)
    simp only [numberN]
    split <;> omega
  · unfold textS
    split
    · simp
    · split
      · simp
      · rename_i k h
        have := endQ_lt s _ _ _ h
        split
        · simp
        · simp; omega
  · have h1 := hp i
    have h2 := hp (i + (plainS s i).length + 1)
    unfold wordS
    repeat' split
    all_goals simp only []
    all_goals omega
  · unfold failS
    have := failL_le s i failW 1
    omega
  · unfold signS
    split
    · rename_i r h
      have := opsL_le s i _ r h
      omega
    · repeat' split
      all_goals simp
theorem rule_at (s : Bytes) (i k : Nat) (h : k < 5) (h0 : ∀ j, j < k → (tryS s i j).2 = 0) (h1 : 0 < (tryS s i k).2) : ruleS s i = tryS s i k := by
  unfold ruleS
  rcases (by omega : k = 0 ∨ k = 1 ∨ k = 2 ∨ k = 3 ∨ k = 4) with rfl | rfl | rfl | rfl | rfl
  · rw [if_pos (show 0 < (numberS s i).2 from h1)]; rfl
  · have a0 : (numberS s i).2 = 0 := h0 0 (by omega)
    rw [if_neg (by omega), if_pos (show 0 < (textS s i).2 from h1)]; rfl
  · have a0 : (numberS s i).2 = 0 := h0 0 (by omega)
    have a1 : (textS s i).2 = 0 := h0 1 (by omega)
    rw [if_neg (by omega), if_neg (by omega), if_pos (show 0 < (wordS s i).2 from h1)]; rfl
  · have a0 : (numberS s i).2 = 0 := h0 0 (by omega)
    have a1 : (textS s i).2 = 0 := h0 1 (by omega)
    have a2 : (wordS s i).2 = 0 := h0 2 (by omega)
    rw [if_neg (by omega), if_neg (by omega), if_neg (by omega), if_pos (show 0 < (failS s i).2 from h1)]; rfl
  · have a0 : (numberS s i).2 = 0 := h0 0 (by omega)
    have a1 : (textS s i).2 = 0 := h0 1 (by omega)
    have a2 : (wordS s i).2 = 0 := h0 2 (by omega)
    have a3 : (failS s i).2 = 0 := h0 3 (by omega)
    rw [if_neg (by omega), if_neg (by omega), if_neg (by omega), if_neg (by omega)]; rfl
theorem rule_none (s : Bytes) (i : Nat) (h0 : ∀ j, j < 5 → (tryS s i j).2 = 0) : (ruleS s i).2 = 0 := by
  have a0 : (numberS s i).2 = 0 := h0 0 (by omega)
  have a1 : (textS s i).2 = 0 := h0 1 (by omega)
  have a2 : (wordS s i).2 = 0 := h0 2 (by omega)
  have a3 : (failS s i).2 = 0 := h0 3 (by omega)
  unfold ruleS
  rw [if_neg (by omega), if_neg (by omega), if_neg (by omega), if_neg (by omega)]
  exact h0 4 (by omega)
theorem toks_fuel (s : Bytes) : ∀ f f' i, s.length < i + f → 0 < f → s.length < i + f' → 0 < f' → toksL s f i = toksL s f' i
  | 0, _, _, _, h, _, _ => by omega
  | f + 1, 0, _, _, _, _, h => by omega
  | f + 1, f' + 1, i, h1, _, h2, _ => by
    unfold toksL
    by_cases hi : s.length ≤ i
    · rw [if_pos hi, if_pos hi]
    · rw [if_neg hi, if_neg hi, toks_fuel s f f' (i + 1) (by omega) (by omega) (by omega) (by omega)]
      by_cases hn : (ruleS s i).2 = 0
      · rw [if_pos hn, if_pos hn]
      · rw [if_neg hn, if_neg hn, toks_fuel s f f' (i + (ruleS s i).2) (by omega) (by omega) (by omega) (by omega)]
/-- The tokens from i on. -/
def toksF (s : Bytes) (i : Nat) : Option (List Tok) := toksL s (s.length + 1) i
theorem toks_end (s : Bytes) (i : Nat) (h : s.length ≤ i) : toksF s i = some [] := by
  unfold toksF toksL; rw [if_pos h]
theorem toks_space (s : Bytes) (i : Nat) (h : i < s.length) (hc : ub s i = 32) : toksF s i = toksF s (i + 1) := by
  unfold toksF
  conv => lhs; unfold toksL
  rw [if_neg (by omega), if_pos hc]
  exact toks_fuel s _ _ _ (by omega) (by omega) (by omega) (by omega)
theorem toks_none (s : Bytes) (i : Nat) (h : i < s.length) (hc : ub s i ≠ 32) (h0 : ∀ j, j < 5 → (tryS s i j).2 = 0) : toksF s i = none := by
  unfold toksF
  conv => lhs; unfold toksL
  rw [if_neg (by omega), if_neg hc, if_pos (rule_none s i h0)]
theorem toks_more (s : Bytes) (i k : Nat) (h : i < s.length) (hc : ub s i ≠ 32) (hk : k < 5) (h0 : ∀ j, j < k → (tryS s i j).2 = 0) (h1 : 0 < (tryS s i k).2) :
    toksF s i = (toksF s (i + (tryS s i k).2)).map ((tryS s i k).1 :: ·) := by
  have hr := rule_at s i k hk h0 h1
  unfold toksF
  conv => lhs; unfold toksL
  rw [if_neg (by omega), if_neg hc, hr, if_neg (by omega)]
  rw [toks_fuel s s.length (s.length + 1) (i + (tryS s i k).2) (by omega) (by omega) (by omega) (by omega)]
theorem tokens_some (s : Bytes) (h : s.length ≤ 256) (hp : pltB s = true) {l : List Tok} (ht : toksF s 0 = some l) : tokensS s = (l, 0) := by
  unfold toksF at ht
  unfold tokensS
  rw [if_neg (by omega), if_neg (by simp [hp]), ht]
theorem tokens_none (s : Bytes) (h : s.length ≤ 256) (hp : pltB s = true) (ht : toksF s 0 = none) : tokensS s = ([], 4) := by
  unfold toksF at ht
  unfold tokensS
  rw [if_neg (by omega), if_neg (by simp [hp]), ht]
theorem map_more (o : List Tok) (c : Tok) (x : Option (List Tok)) : (x.map (c :: ·)).map (o ++ ·) = x.map ((o ++ [c]) ++ ·) := by cases x <;> simp
/-- Each rule. -/
theorem lex_try (g : Nat) (s : Bytes) (i : Nat) (w : World) (hs : s.length ≤ 1000000) (hi : i < s.length) (hg : Blk w g 263 #[str s]) (hw : Words w) (k : Nat) (f : Nat)
    (hf : (k, f) ∈ [(0, 246), (1, 247), (2, 248), (3, 249), (4, 250)]) :
    Calls Tryz.prog f #[.pointer (some ⟨g, 0, none⟩), .int .i64 i] w fun u w' => u = .returned (.tuple #[.agg (cTok (tryS s i k).1).toArray, .int .i64 (tryS s i k).2]) ∧ Below w.heap.size w w' := by
  simp only [List.mem_cons, List.not_mem_nil, or_false, Prod.mk.injEq] at hf
  rcases hf with ⟨rfl, rfl⟩ | ⟨rfl, rfl⟩ | ⟨rfl, rfl⟩ | ⟨rfl, rfl⟩ | ⟨rfl, rfl⟩
  · exact lex_number g s i w hs (by omega) hg
  · exact lex_text g s i w hs hi hg
  · exact lex_word g s i w hs hi hg
  · exact lex_fail g s i w hs (by omega) hg hw
  · exact lex_sign g s i w hs hi hg
theorem plt_at (s : Bytes) (k : Nat) (h : k < s.length) (hc : ¬ (32 ≤ ub s k ∧ ub s k ≤ 126)) : pltB s = false := by
  have : ¬ pltB s = true := fun hp => by
    unfold pltB at hp
    rw [List.all_eq_true] at hp
    have := hp (s.getD k 0) (by rw [List.getD_eq_getElem?_getD, List.getElem?_eq_getElem h]; simp)
    simp at this
    exact hc this
  exact eq_false_of_ne_true this
theorem plt_all (s : Bytes) (h : ∀ j, j < s.length → 32 ≤ ub s j ∧ ub s j ≤ 126) : pltB s = true := by
  unfold pltB
  rw [List.all_eq_true]
  intro c hc
  obtain ⟨j, hj, rfl⟩ := List.getElem_of_mem hc
  have := h j hj
  unfold ub at this
  rw [List.getD_eq_getElem?_getD, List.getElem?_eq_getElem hj] at this
  simpa using this
theorem info_tok : ∃ i, Tryz.prog.info? 239 = some i ∧ i.zero = some (.agg #[.int .u8 0, .int .i64 0, .string ⟨#[]⟩, .int .i64 0, .int .i64 0, .int .i64 0, .int .i64 0, .int .i64 0]) ∧ i.size = 8 ∧ i.bytes = 72 :=
  info_parts (show (Tryz.prog.info? 239).map (fun i => (i.zero, i.size, i.bytes)) = some (some (.agg #[.int .u8 0, .int .i64 0, .string ⟨#[]⟩, .int .i64 0, .int .i64 0, .int .i64 0, .int .i64 0, .int .i64 0]), 8, 72) by kernel_rfl)
theorem cTok_one (x : Tok) : ∀ u ∈ cTok x, u.oneCell' = true := by
  intro u hu
  simp only [cTok, List.mem_cons, List.not_mem_nil, or_false] at hu
  rcases hu with rfl | rfl | rfl | rfl | rfl | rfl | rfl | rfl <;> rfl
theorem tokens_bad (s : Bytes) (h : s.length ≤ 256) (hp : pltB s = false) : tokensS s = ([], 4) := by
  unfold tokensS
  rw [if_neg (by omega), if_pos hp]
def rulA (g : Nat) : Array Value := #[.func (.func 246) #[.pointer (some ⟨g, 0, none⟩)] #[], .func (.func 247) #[.pointer (some ⟨g, 0, none⟩)] #[], .func (.func 248) #[.pointer (some ⟨g, 0, none⟩)] #[], .func (.func 249) #[.pointer (some ⟨g, 0, none⟩)] #[], .func (.func 250) #[.pointer (some ⟨g, 0, none⟩)] #[]]
theorem lex_tokens (s : Bytes) (w : World) (hs : s.length ≤ 1000000) (hw : Words w) :
    Calls Tryz.prog 222 #[str s] w fun u w' => ∃ v, ∃ p : Int, u = .returned (.tuple #[v, .int .i64 p, .int .i64 (tokensS s).2]) ∧ Sls cTok w' w'.heap.size v (tokensS s).1 ∧ Below w.heap.size w w' ∧ ∀ q, v.ownBlock = some q → w.heap.size ≤ q := by
  have HW := Lib.hid hw
  obtain ⟨it, ti0, ti1, ti2, ti3⟩ := info_tok
  clear hw
  by_cases h256 : 256 < s.length
  · have h256' : (256 : Int) < s.length := by omega
    have HE := Lib.hid (show tokensS s = ([], 5) by unfold tokensS; rw [if_pos h256])
    go_enter Tryz.func222, Tryz.ntmps222
    go_wp2
    go_step3
    go_wp2
    try rw [Exit.noGoto_ret]
    go_ret3
    exact ⟨_, _, by rw [HE.out]; rfl, by rw [HE.out]; exact Sls.nil _ _ _ _ _, by go_grown, fun q hq => by simp [Value.ownBlock] at hq⟩
  · have h256' : ¬ (256 : Int) < s.length := by omega
    have h256n : s.length ≤ 256 := by omega
    go_enter Tryz.func222, Tryz.ntmps222
    go_wp2_with fail
    go_step3
    go_wp2_with fail
    go_loopw [2, 18] (fun r v wr => r = .slice none 0 0 ∧ ∃ k : Nat, k ≤ s.length ∧ v = .int .i64 k ∧ (∀ j, j < k → 32 ≤ ub s j ∧ ub s j ≤ 126) ∧ w = wr) (fun _ v _ => s.length - (intOf v).toNat)
    case atStart => exact ⟨rfl, 0, by omega, rfl, fun j hj => by omega, rfl⟩
    case round =>
      obtain ⟨rfl, k, hk, rfl, hall, rfl⟩ := hrel
      have HA := Lib.hid hall
      clear hall
      have k0 : (0 : Int) ≤ (k : Int) := by omega
      by_cases hkn : k < s.length
      · have hk1 : (k : Int) < (s.length : Int) := by omega
        have hx := str_at s k (by rw [str_size]; exact hkn)
        have HU := Lib.hid (show ub s k = (s.getD k 0).toNat from rfl)
        generalize s.getD k 0 = c at hx HU
        by_cases hc : 32 ≤ c.toNat ∧ c.toNat ≤ 126
        · have c1 : ¬ (c.toNat : Int) < 32 := by omega
          have c2 : ¬ 126 < (c.toNat : Int) := by omega
          have HA2 := Lib.hid (show ∀ j, j < k + 1 → 32 ≤ ub s j ∧ ub s j ≤ 126 from fun j hj => by
            rcases Nat.lt_or_ge j k with h | h
            · exact HA.out j h
            · obtain rfl : j = k := by omega
              rw [HU.out]; exact hc)
          clear hc
          go_wp2
          exact ⟨⟨rfl, k + 1, by omega, by go_num, HA2.out, trivial⟩, by simp [intOf]; omega⟩
        · have HE := Lib.hid (tokens_bad s h256n (plt_at s k hkn (by rw [HU.out]; exact hc)))
          by_cases c1 : c.toNat < 32
          · have c1' : (c.toNat : Int) < 32 := by omega
            clear hc
            go_wp2
            try rw [Exit.noGoto_ret]
            go_ret3
            exact ⟨_, _, by rw [HE.out]; rfl, by rw [HE.out]; exact Sls.nil _ _ _ _ _, by go_grown, fun q hq => by simp [Value.ownBlock] at hq⟩
          · have c1' : ¬ (c.toNat : Int) < 32 := by omega
            have c2' : 126 < (c.toNat : Int) := by omega
            clear hc
            go_wp2
            try rw [Exit.noGoto_ret]
            go_ret3
            exact ⟨_, _, by rw [HE.out]; rfl, by rw [HE.out]; exact Sls.nil _ _ _ _ _, by go_grown, fun q hq => by simp [Value.ownBlock] at hq⟩
      · have hk1 : ¬ (k : Int) < (s.length : Int) := by omega
        have HP := Lib.hid (plt_all s (fun j hj => HA.out j (by omega)))
        clear HA
        go_wp2_with fail
        have kA := (Blk.new w 263 #[str s]).alloc (.cells (rulA w.heap.size) 265)
        have kB : Blk ((w.alloc (.cells #[str s] 263)).alloc (.cells (rulA w.heap.size) 265)) (w.heap.size + 1) 265 (rulA w.heap.size) := by
          have := Blk.new (w.alloc (.cells #[str s] 263)) 265 (rulA w.heap.size)
          simpa using this
        have bb : Below w.heap.size w ((w.alloc (.cells #[str s] 263)).alloc (.cells (rulA w.heap.size) 265)) := by go_grown
        obtain ⟨W2, hW2⟩ : ∃ W2, (w.alloc (.cells #[str s] 263)).alloc (.cells (rulA w.heap.size) 265) = W2 := ⟨_, rfl⟩
        have sz : W2.heap.size = w.heap.size + 1 + 1 := by rw [← hW2]; simp
        rw [hW2] at kA kB bb
        unfold rulA at hW2
        rw [hW2]
        have KA := Lib.hid kA
        have KB := Lib.hid kB
        have BB := Lib.hid bb
        have SZ := Lib.hid sz
        have WW := Lib.hid (HW.out.below bb)
        clear hW2 kA kB bb sz HW
        go_step3
        go_wp2_with fail
        go_loopw [2, 8] (fun v iv w3 => ∃ (i : Nat) (l : List Tok), i ≤ 2000 ∧ iv = .int .i64 i ∧ l.length ≤ i ∧ Own cTok 239 8 w3 v l ∧ OutTo W2 (.slice none 0 0) w3 v ∧ toksF s 0 = (toksF s i).map (l ++ ·)) (fun _ iv _ => 2000 - (intOf iv).toNat)
        case atStart => exact ⟨0, [], by omega, rfl, by simp, Own.nil _ _ _ _, OutTo.refl _ _, by cases toksF s 0 <;> simp⟩
        case round =>
          obtain ⟨i, l, hi2, rfl, hll, hown, hot, htk⟩ := hrel
          have HO := Lib.hid hown
          have HT := Lib.hid hot
          have HK := Lib.hid htk
          clear hown hot htk
          have i0 : (0 : Int) ≤ (i : Int) := by omega
          have i2 : (i : Int) ≤ 2000 := by omega
          by_cases hin : i < s.length
          · have hi1 : (i : Int) < (s.length : Int) := by omega
            have hx := str_at s i (by rw [str_size]; exact hin)
            have HU := Lib.hid (show ub s i = (s.getD i 0).toNat from rfl)
            generalize s.getD i 0 = c at hx HU
            by_cases h32 : c.toNat = 32
            · have HE := Lib.hid (toks_space s i hin (HU.out.trans h32))
              have b32 : ((c.toNat : Int) == 32) = true := by rw [h32]; rfl
              clear h32
              go_wp2
              exact ⟨⟨i + 1, l, by omega, by go_num, by omega, HO.out, HT.out, by rw [HK.out, HE.out]⟩, by simp [intOf]; omega⟩
            · have HE := Lib.hid (show ub s i ≠ 32 by rw [HU.out]; exact h32)
              have b32 : ((c.toNat : Int) == 32) = false := by simp; omega
              clear h32
              have kb := KB.out.outTo HT.out (by simp [Value.ownBlock])
              have f0 : wr.cell? ⟨w.heap.size + 1, 0, none⟩ = some (.func (.func 246) #[.pointer (some ⟨w.heap.size, 0, none⟩)] #[]) := kb.cell 0
              have f1 : wr.cell? ⟨w.heap.size + 1, 1, none⟩ = some (.func (.func 247) #[.pointer (some ⟨w.heap.size, 0, none⟩)] #[]) := kb.cell 1
              have f2 : wr.cell? ⟨w.heap.size + 1, 2, none⟩ = some (.func (.func 248) #[.pointer (some ⟨w.heap.size, 0, none⟩)] #[]) := kb.cell 2
              have f3 : wr.cell? ⟨w.heap.size + 1, 3, none⟩ = some (.func (.func 249) #[.pointer (some ⟨w.heap.size, 0, none⟩)] #[]) := kb.cell 3
              have f4 : wr.cell? ⟨w.heap.size + 1, 4, none⟩ = some (.func (.func 250) #[.pointer (some ⟨w.heap.size, 0, none⟩)] #[]) := kb.cell 4
              clear kb
              have HA := Lib.hid (KA.out.outTo HT.out (by simp [Value.ownBlock]))
              have HWR := Lib.hid (HT.out.old (Nat.le_refl _) (fun k hk => by simp [Value.ownBlock] at hk))
              go_wp2_with fail
              obtain ⟨W3, hW3⟩ : ∃ W3, W3 = wr := ⟨_, rfl⟩
              subst hW3
              obtain ⟨sv, hsv⟩ : ∃ sv, sv = u2 := ⟨_, rfl⟩
              subst hsv
              go_loopw [2, 8, 58] (fun sv' iv v w4 => sv' = sv ∧ iv = .int .i64 i ∧ ∃ k : Nat, k ≤ 5 ∧ v = .int .i64 k ∧ (∀ j, j < k → (tryS s i j).2 = 0) ∧ Below W3.heap.size W3 w4) (fun _ _ v _ => 5 - (intOf v).toNat)
              case atStart => exact ⟨rfl, rfl, 0, by omega, rfl, fun j hj => by omega, Below.refl _ _⟩
              case round =>
                obtain ⟨rfl, rfl, k, hk5, rfl, hz, hbk⟩ := hrel
                have HZ := Lib.hid hz
                have HBK := Lib.hid hbk
                clear hz hbk
                -- RULES
                rcases (by omega : k = 0 ∨ k = 1 ∨ k = 2 ∨ k = 3 ∨ k = 4 ∨ k = 5) with rfl | rfl | rfl | rfl | rfl | rfl
                · have hbl := HBK.out
                  have HG := Lib.hid (HA.out.below_ hbl)
                  have HWK := Lib.hid ((WW.out.below HWR.out).below hbl)
                  clear hbl
                  have hc := lex_try w.heap.size s i wr hs hin HG.out HWK.out 0 246 (by decide)
                  have hle := try_le s i 0
                  have HC := Lib.hid hc
                  clear hc
                  generalize hr : tryS s i 0 = r at HC hle
                  have HR := Lib.hid hr
                  clear hr
                  obtain ⟨tk, n⟩ := r
                  simp only at HC hle
                  have hix : ∀ W : World, (Instr.index 265 (.agg #[.func (.func 246) #[.pointer (some ⟨w.heap.size, 0, none⟩)] #[], .func (.func 247) #[.pointer (some ⟨w.heap.size, 0, none⟩)] #[], .func (.func 248) #[.pointer (some ⟨w.heap.size, 0, none⟩)] #[], .func (.func 249) #[.pointer (some ⟨w.heap.size, 0, none⟩)] #[], .func (.func 250) #[.pointer (some ⟨w.heap.size, 0, none⟩)] #[]]) (.int .i64 0)).run Tryz.prog W = .ok (.func (.func 246) #[.pointer (some ⟨w.heap.size, 0, none⟩)] #[]) W := fun W => by rfl
                  go_wp2_with fail
                  refine HC.out.mono ?_
                  rintro u w5 ⟨rfl, hb5⟩
                  have HB5 := Lib.hid (Below.next HBK.out hb5 HBK.out.size)
                  clear hb5 HC
                  have n1 : (n : Int) ≤ 513 := by omega
                  by_cases hn : 0 < n
                  · have hn' : (0 : Int) < (n : Int) := by omega
                    have HT5 := Lib.hid (show OutTo W2 (.slice none 0 0) (w5.alloc (.cells (cTok tk).toArray 239)) u2 from (HT.out.below HB5.out).alloc _)
                    rw [show (cTok tk).toArray = #[.int .u8 tk.kind, .int .i64 tk.num, str tk.text, .int .i64 tk.rect.c1, .int .i64 tk.rect.r1, .int .i64 tk.rect.c2, .int .i64 tk.rect.r2, .int .i64 tk.at_] from rfl]
                    have KN := Lib.hid (show Blk ((w5.alloc (.cells (cTok tk).toArray 239)).alloc (.cells (cTok tk).toArray 239)) (w5.heap.size + 1) 239 (cTok tk).toArray by
                      have := Blk.new (w5.alloc (.cells (cTok tk).toArray 239)) 239 (cTok tk).toArray
                      simpa using this)
                    have HO5 := Lib.hid (((HO.out.below HB5.out).alloc (.cells (cTok tk).toArray 239)).alloc (.cells (cTok tk).toArray 239))
                    go_wp2_with (at_builtin; refine RowKit.Hid.out ?_)
                    refine Lib.hid ?_
                    refine wpList_more cTok rfl _ _ 230 rfl 239 it _ 8 72 Tryz.underlying230 ti0 ti1 ti2 ti3 rfl (by omega) u2 l rfl HO5.out _ _ [tk] rfl (Sls.one (x := tk) KN.out rfl) cTok_len cTok_one (by simp; omega) (by omega) ?_
                    intro v9 w9 o9 t9
                    have O9 := Lib.hid o9
                    have T9 := Lib.hid ((HT5.out.alloc (.cells (cTok tk).toArray 239)).trans t9)
                    clear o9 t9 KN
                    go_wp2
                    exact ⟨⟨i + n, l ++ [tk], by omega, by go_num, by simp; omega, O9.out, T9.out, by rw [HK.out, toks_more s i 0 hin HE.out (by omega) HZ.out (by rw [HR.out]; exact hn), HR.out]; exact map_more _ _ _⟩, by simp [intOf]; omega⟩
                  · have hn' : ¬ (0 : Int) < (n : Int) := by omega
                    have HZ2 := Lib.hid (show ∀ j, j < 0 + 1 → (tryS s i j).2 = 0 from fun j hj => by
                      rcases Nat.lt_or_ge j 0 with h | h
                      · exact HZ.out j h
                      · obtain rfl : j = 0 := by omega
                        rw [HR.out]
                        show n = 0
                        omega)
                    have HB6 := Lib.hid (HB5.out.alloc HB5.out.size (.cells (cTok tk).toArray 239))
                    rw [show (cTok tk).toArray = #[.int .u8 tk.kind, .int .i64 tk.num, str tk.text, .int .i64 tk.rect.c1, .int .i64 tk.rect.r1, .int .i64 tk.rect.c2, .int .i64 tk.rect.r2, .int .i64 tk.at_] from rfl]
                    go_wp2
                    exact ⟨⟨rfl, rfl, 0 + 1, by omega, by go_num, HZ2.out, HB6.out⟩, by simp [intOf]⟩
                · have hbl := HBK.out
                  have HG := Lib.hid (HA.out.below_ hbl)
                  have HWK := Lib.hid ((WW.out.below HWR.out).below hbl)
                  clear hbl
                  have hc := lex_try w.heap.size s i wr hs hin HG.out HWK.out 1 247 (by decide)
                  have hle := try_le s i 1
                  have HC := Lib.hid hc
                  clear hc
                  generalize hr : tryS s i 1 = r at HC hle
                  have HR := Lib.hid hr
                  clear hr
                  obtain ⟨tk, n⟩ := r
                  simp only at HC hle
                  have hix : ∀ W : World, (Instr.index 265 (.agg #[.func (.func 246) #[.pointer (some ⟨w.heap.size, 0, none⟩)] #[], .func (.func 247) #[.pointer (some ⟨w.heap.size, 0, none⟩)] #[], .func (.func 248) #[.pointer (some ⟨w.heap.size, 0, none⟩)] #[], .func (.func 249) #[.pointer (some ⟨w.heap.size, 0, none⟩)] #[], .func (.func 250) #[.pointer (some ⟨w.heap.size, 0, none⟩)] #[]]) (.int .i64 1)).run Tryz.prog W = .ok (.func (.func 247) #[.pointer (some ⟨w.heap.size, 0, none⟩)] #[]) W := fun W => by rfl
                  go_wp2_with fail
                  refine HC.out.mono ?_
                  rintro u w5 ⟨rfl, hb5⟩
                  have HB5 := Lib.hid (Below.next HBK.out hb5 HBK.out.size)
                  clear hb5 HC
                  have n1 : (n : Int) ≤ 513 := by omega
                  by_cases hn : 0 < n
                  · have hn' : (0 : Int) < (n : Int) := by omega
                    have HT5 := Lib.hid (show OutTo W2 (.slice none 0 0) (w5.alloc (.cells (cTok tk).toArray 239)) u2 from (HT.out.below HB5.out).alloc _)
                    rw [show (cTok tk).toArray = #[.int .u8 tk.kind, .int .i64 tk.num, str tk.text, .int .i64 tk.rect.c1, .int .i64 tk.rect.r1, .int .i64 tk.rect.c2, .int .i64 tk.rect.r2, .int .i64 tk.at_] from rfl]
                    have KN := Lib.hid (show Blk ((w5.alloc (.cells (cTok tk).toArray 239)).alloc (.cells (cTok tk).toArray 239)) (w5.heap.size + 1) 239 (cTok tk).toArray by
                      have := Blk.new (w5.alloc (.cells (cTok tk).toArray 239)) 239 (cTok tk).toArray
                      simpa using this)
                    have HO5 := Lib.hid (((HO.out.below HB5.out).alloc (.cells (cTok tk).toArray 239)).alloc (.cells (cTok tk).toArray 239))
                    go_wp2_with (at_builtin; refine RowKit.Hid.out ?_)
                    refine Lib.hid ?_
                    refine wpList_more cTok rfl _ _ 230 rfl 239 it _ 8 72 Tryz.underlying230 ti0 ti1 ti2 ti3 rfl (by omega) u2 l rfl HO5.out _ _ [tk] rfl (Sls.one (x := tk) KN.out rfl) cTok_len cTok_one (by simp; omega) (by omega) ?_
                    intro v9 w9 o9 t9
                    have O9 := Lib.hid o9
                    have T9 := Lib.hid ((HT5.out.alloc (.cells (cTok tk).toArray 239)).trans t9)
                    clear o9 t9 KN
                    go_wp2
                    exact ⟨⟨i + n, l ++ [tk], by omega, by go_num, by simp; omega, O9.out, T9.out, by rw [HK.out, toks_more s i 1 hin HE.out (by omega) HZ.out (by rw [HR.out]; exact hn), HR.out]; exact map_more _ _ _⟩, by simp [intOf]; omega⟩
                  · have hn' : ¬ (0 : Int) < (n : Int) := by omega
                    have HZ2 := Lib.hid (show ∀ j, j < 1 + 1 → (tryS s i j).2 = 0 from fun j hj => by
                      rcases Nat.lt_or_ge j 1 with h | h
                      · exact HZ.out j h
                      · obtain rfl : j = 1 := by omega
                        rw [HR.out]
                        show n = 0
                        omega)
                    have HB6 := Lib.hid (HB5.out.alloc HB5.out.size (.cells (cTok tk).toArray 239))
                    rw [show (cTok tk).toArray = #[.int .u8 tk.kind, .int .i64 tk.num, str tk.text, .int .i64 tk.rect.c1, .int .i64 tk.rect.r1, .int .i64 tk.rect.c2, .int .i64 tk.rect.r2, .int .i64 tk.at_] from rfl]
                    go_wp2
                    exact ⟨⟨rfl, rfl, 1 + 1, by omega, by go_num, HZ2.out, HB6.out⟩, by simp [intOf]⟩
                · have hbl := HBK.out
                  have HG := Lib.hid (HA.out.below_ hbl)
                  have HWK := Lib.hid ((WW.out.below HWR.out).below hbl)
                  clear hbl
                  have hc := lex_try w.heap.size s i wr hs hin HG.out HWK.out 2 248 (by decide)
                  have hle := try_le s i 2
                  have HC := Lib.hid hc
                  clear hc
                  generalize hr : tryS s i 2 = r at HC hle
                  have HR := Lib.hid hr
                  clear hr
                  obtain ⟨tk, n⟩ := r
                  simp only at HC hle
                  have hix : ∀ W : World, (Instr.index 265 (.agg #[.func (.func 246) #[.pointer (some ⟨w.heap.size, 0, none⟩)] #[], .func (.func 247) #[.pointer (some ⟨w.heap.size, 0, none⟩)] #[], .func (.func 248) #[.pointer (some ⟨w.heap.size, 0, none⟩)] #[], .func (.func 249) #[.pointer (some ⟨w.heap.size, 0, none⟩)] #[], .func (.func 250) #[.pointer (some ⟨w.heap.size, 0, none⟩)] #[]]) (.int .i64 2)).run Tryz.prog W = .ok (.func (.func 248) #[.pointer (some ⟨w.heap.size, 0, none⟩)] #[]) W := fun W => by rfl
                  go_wp2_with fail
                  refine HC.out.mono ?_
                  rintro u w5 ⟨rfl, hb5⟩
                  have HB5 := Lib.hid (Below.next HBK.out hb5 HBK.out.size)
                  clear hb5 HC
                  have n1 : (n : Int) ≤ 513 := by omega
                  by_cases hn : 0 < n
                  · have hn' : (0 : Int) < (n : Int) := by omega
                    have HT5 := Lib.hid (show OutTo W2 (.slice none 0 0) (w5.alloc (.cells (cTok tk).toArray 239)) u2 from (HT.out.below HB5.out).alloc _)
                    rw [show (cTok tk).toArray = #[.int .u8 tk.kind, .int .i64 tk.num, str tk.text, .int .i64 tk.rect.c1, .int .i64 tk.rect.r1, .int .i64 tk.rect.c2, .int .i64 tk.rect.r2, .int .i64 tk.at_] from rfl]
                    have KN := Lib.hid (show Blk ((w5.alloc (.cells (cTok tk).toArray 239)).alloc (.cells (cTok tk).toArray 239)) (w5.heap.size + 1) 239 (cTok tk).toArray by
                      have := Blk.new (w5.alloc (.cells (cTok tk).toArray 239)) 239 (cTok tk).toArray
                      simpa using this)
                    have HO5 := Lib.hid (((HO.out.below HB5.out).alloc (.cells (cTok tk).toArray 239)).alloc (.cells (cTok tk).toArray 239))
                    go_wp2_with (at_builtin; refine RowKit.Hid.out ?_)
                    refine Lib.hid ?_
                    refine wpList_more cTok rfl _ _ 230 rfl 239 it _ 8 72 Tryz.underlying230 ti0 ti1 ti2 ti3 rfl (by omega) u2 l rfl HO5.out _ _ [tk] rfl (Sls.one (x := tk) KN.out rfl) cTok_len cTok_one (by simp; omega) (by omega) ?_
                    intro v9 w9 o9 t9
                    have O9 := Lib.hid o9
                    have T9 := Lib.hid ((HT5.out.alloc (.cells (cTok tk).toArray 239)).trans t9)
                    clear o9 t9 KN
                    go_wp2
                    exact ⟨⟨i + n, l ++ [tk], by omega, by go_num, by simp; omega, O9.out, T9.out, by rw [HK.out, toks_more s i 2 hin HE.out (by omega) HZ.out (by rw [HR.out]; exact hn), HR.out]; exact map_more _ _ _⟩, by simp [intOf]; omega⟩
                  · have hn' : ¬ (0 : Int) < (n : Int) := by omega
                    have HZ2 := Lib.hid (show ∀ j, j < 2 + 1 → (tryS s i j).2 = 0 from fun j hj => by
                      rcases Nat.lt_or_ge j 2 with h | h
                      · exact HZ.out j h
                      · obtain rfl : j = 2 := by omega
                        rw [HR.out]
                        show n = 0
                        omega)
                    have HB6 := Lib.hid (HB5.out.alloc HB5.out.size (.cells (cTok tk).toArray 239))
                    rw [show (cTok tk).toArray = #[.int .u8 tk.kind, .int .i64 tk.num, str tk.text, .int .i64 tk.rect.c1, .int .i64 tk.rect.r1, .int .i64 tk.rect.c2, .int .i64 tk.rect.r2, .int .i64 tk.at_] from rfl]
                    go_wp2
                    exact ⟨⟨rfl, rfl, 2 + 1, by omega, by go_num, HZ2.out, HB6.out⟩, by simp [intOf]⟩
                · have hbl := HBK.out
                  have HG := Lib.hid (HA.out.below_ hbl)
                  have HWK := Lib.hid ((WW.out.below HWR.out).below hbl)
                  clear hbl
                  have hc := lex_try w.heap.size s i wr hs hin HG.out HWK.out 3 249 (by decide)
                  have hle := try_le s i 3
                  have HC := Lib.hid hc
                  clear hc
                  generalize hr : tryS s i 3 = r at HC hle
                  have HR := Lib.hid hr
                  clear hr
                  obtain ⟨tk, n⟩ := r
                  simp only at HC hle
                  have hix : ∀ W : World, (Instr.index 265 (.agg #[.func (.func 246) #[.pointer (some ⟨w.heap.size, 0, none⟩)] #[], .func (.func 247) #[.pointer (some ⟨w.heap.size, 0, none⟩)] #[], .func (.func 248) #[.pointer (some ⟨w.heap.size, 0, none⟩)] #[], .func (.func 249) #[.pointer (some ⟨w.heap.size, 0, none⟩)] #[], .func (.func 250) #[.pointer (some ⟨w.heap.size, 0, none⟩)] #[]]) (.int .i64 3)).run Tryz.prog W = .ok (.func (.func 249) #[.pointer (some ⟨w.heap.size, 0, none⟩)] #[]) W := fun W => by rfl
                  go_wp2_with fail
                  refine HC.out.mono ?_
                  rintro u w5 ⟨rfl, hb5⟩
                  have HB5 := Lib.hid (Below.next HBK.out hb5 HBK.out.size)
                  clear hb5 HC
                  have n1 : (n : Int) ≤ 513 := by omega
                  by_cases hn : 0 < n
                  · have hn' : (0 : Int) < (n : Int) := by omega
                    have HT5 := Lib.hid (show OutTo W2 (.slice none 0 0) (w5.alloc (.cells (cTok tk).toArray 239)) u2 from (HT.out.below HB5.out).alloc _)
                    rw [show (cTok tk).toArray = #[.int .u8 tk.kind, .int .i64 tk.num, str tk.text, .int .i64 tk.rect.c1, .int .i64 tk.rect.r1, .int .i64 tk.rect.c2, .int .i64 tk.rect.r2, .int .i64 tk.at_] from rfl]
                    have KN := Lib.hid (show Blk ((w5.alloc (.cells (cTok tk).toArray 239)).alloc (.cells (cTok tk).toArray 239)) (w5.heap.size + 1) 239 (cTok tk).toArray by
                      have := Blk.new (w5.alloc (.cells (cTok tk).toArray 239)) 239 (cTok tk).toArray
                      simpa using this)
                    have HO5 := Lib.hid (((HO.out.below HB5.out).alloc (.cells (cTok tk).toArray 239)).alloc (.cells (cTok tk).toArray 239))
                    go_wp2_with (at_builtin; refine RowKit.Hid.out ?_)
                    refine Lib.hid ?_
                    refine wpList_more cTok rfl _ _ 230 rfl 239 it _ 8 72 Tryz.underlying230 ti0 ti1 ti2 ti3 rfl (by omega) u2 l rfl HO5.out _ _ [tk] rfl (Sls.one (x := tk) KN.out rfl) cTok_len cTok_one (by simp; omega) (by omega) ?_
                    intro v9 w9 o9 t9
                    have O9 := Lib.hid o9
                    have T9 := Lib.hid ((HT5.out.alloc (.cells (cTok tk).toArray 239)).trans t9)
                    clear o9 t9 KN
                    go_wp2
                    exact ⟨⟨i + n, l ++ [tk], by omega, by go_num, by simp; omega, O9.out, T9.out, by rw [HK.out, toks_more s i 3 hin HE.out (by omega) HZ.out (by rw [HR.out]; exact hn), HR.out]; exact map_more _ _ _⟩, by simp [intOf]; omega⟩
                  · have hn' : ¬ (0 : Int) < (n : Int) := by omega
                    have HZ2 := Lib.hid (show ∀ j, j < 3 + 1 → (tryS s i j).2 = 0 from fun j hj => by
                      rcases Nat.lt_or_ge j 3 with h | h
                      · exact HZ.out j h
                      · obtain rfl : j = 3 := by omega
                        rw [HR.out]
                        show n = 0
                        omega)
                    have HB6 := Lib.hid (HB5.out.alloc HB5.out.size (.cells (cTok tk).toArray 239))
                    rw [show (cTok tk).toArray = #[.int .u8 tk.kind, .int .i64 tk.num, str tk.text, .int .i64 tk.rect.c1, .int .i64 tk.rect.r1, .int .i64 tk.rect.c2, .int .i64 tk.rect.r2, .int .i64 tk.at_] from rfl]
                    go_wp2
                    exact ⟨⟨rfl, rfl, 3 + 1, by omega, by go_num, HZ2.out, HB6.out⟩, by simp [intOf]⟩
                · have hbl := HBK.out
                  have HG := Lib.hid (HA.out.below_ hbl)
                  have HWK := Lib.hid ((WW.out.below HWR.out).below hbl)
                  clear hbl
                  have hc := lex_try w.heap.size s i wr hs hin HG.out HWK.out 4 250 (by decide)
                  have hle := try_le s i 4
                  have HC := Lib.hid hc
                  clear hc
                  generalize hr : tryS s i 4 = r at HC hle
                  have HR := Lib.hid hr
                  clear hr
                  obtain ⟨tk, n⟩ := r
                  simp only at HC hle
                  have hix : ∀ W : World, (Instr.index 265 (.agg #[.func (.func 246) #[.pointer (some ⟨w.heap.size, 0, none⟩)] #[], .func (.func 247) #[.pointer (some ⟨w.heap.size, 0, none⟩)] #[], .func (.func 248) #[.pointer (some ⟨w.heap.size, 0, none⟩)] #[], .func (.func 249) #[.pointer (some ⟨w.heap.size, 0, none⟩)] #[], .func (.func 250) #[.pointer (some ⟨w.heap.size, 0, none⟩)] #[]]) (.int .i64 4)).run Tryz.prog W = .ok (.func (.func 250) #[.pointer (some ⟨w.heap.size, 0, none⟩)] #[]) W := fun W => by rfl
                  go_wp2_with fail
                  refine HC.out.mono ?_
                  rintro u w5 ⟨rfl, hb5⟩
                  have HB5 := Lib.hid (Below.next HBK.out hb5 HBK.out.size)
                  clear hb5 HC
                  have n1 : (n : Int) ≤ 513 := by omega
                  by_cases hn : 0 < n
                  · have hn' : (0 : Int) < (n : Int) := by omega
                    have HT5 := Lib.hid (show OutTo W2 (.slice none 0 0) (w5.alloc (.cells (cTok tk).toArray 239)) u2 from (HT.out.below HB5.out).alloc _)
                    rw [show (cTok tk).toArray = #[.int .u8 tk.kind, .int .i64 tk.num, str tk.text, .int .i64 tk.rect.c1, .int .i64 tk.rect.r1, .int .i64 tk.rect.c2, .int .i64 tk.rect.r2, .int .i64 tk.at_] from rfl]
                    have KN := Lib.hid (show Blk ((w5.alloc (.cells (cTok tk).toArray 239)).alloc (.cells (cTok tk).toArray 239)) (w5.heap.size + 1) 239 (cTok tk).toArray by
                      have := Blk.new (w5.alloc (.cells (cTok tk).toArray 239)) 239 (cTok tk).toArray
                      simpa using this)
                    have HO5 := Lib.hid (((HO.out.below HB5.out).alloc (.cells (cTok tk).toArray 239)).alloc (.cells (cTok tk).toArray 239))
                    go_wp2_with (at_builtin; refine RowKit.Hid.out ?_)
                    refine Lib.hid ?_
                    refine wpList_more cTok rfl _ _ 230 rfl 239 it _ 8 72 Tryz.underlying230 ti0 ti1 ti2 ti3 rfl (by omega) u2 l rfl HO5.out _ _ [tk] rfl (Sls.one (x := tk) KN.out rfl) cTok_len cTok_one (by simp; omega) (by omega) ?_
                    intro v9 w9 o9 t9
                    have O9 := Lib.hid o9
                    have T9 := Lib.hid ((HT5.out.alloc (.cells (cTok tk).toArray 239)).trans t9)
                    clear o9 t9 KN
                    go_wp2
                    exact ⟨⟨i + n, l ++ [tk], by omega, by go_num, by simp; omega, O9.out, T9.out, by rw [HK.out, toks_more s i 4 hin HE.out (by omega) HZ.out (by rw [HR.out]; exact hn), HR.out]; exact map_more _ _ _⟩, by simp [intOf]; omega⟩
                  · have hn' : ¬ (0 : Int) < (n : Int) := by omega
                    have HZ2 := Lib.hid (show ∀ j, j < 4 + 1 → (tryS s i j).2 = 0 from fun j hj => by
                      rcases Nat.lt_or_ge j 4 with h | h
                      · exact HZ.out j h
                      · obtain rfl : j = 4 := by omega
                        rw [HR.out]
                        show n = 0
                        omega)
                    have HB6 := Lib.hid (HB5.out.alloc HB5.out.size (.cells (cTok tk).toArray 239))
                    rw [show (cTok tk).toArray = #[.int .u8 tk.kind, .int .i64 tk.num, str tk.text, .int .i64 tk.rect.c1, .int .i64 tk.rect.r1, .int .i64 tk.rect.c2, .int .i64 tk.rect.r2, .int .i64 tk.at_] from rfl]
                    go_wp2
                    exact ⟨⟨rfl, rfl, 4 + 1, by omega, by go_num, HZ2.out, HB6.out⟩, by simp [intOf]⟩
                · have HE2 := Lib.hid (tokens_none s h256n HP.out (by rw [HK.out, toks_none s i hin HE.out HZ.out]; rfl))
                  have HBE := Lib.hid (BB.out.trans (((HT.out.old (Nat.le_refl _) (fun k hk => by simp [Value.ownBlock] at hk)).trans (HBK.out.mono (by have := HT.out.chg.size; omega))).mono (by have := BB.out.size; omega)))
                  go_wp2
                  try rw [Exit.noGoto_ret]
                  go_ret3
                  exact ⟨_, _, by rw [HE2.out]; rfl, by rw [HE2.out]; exact Sls.nil _ _ _ _ _, HBE.out, fun q hq => by simp [Value.ownBlock] at hq⟩
                -- END RULES
          · have hi1 : ¬ (i : Int) < (s.length : Int) := by omega
            have HE := Lib.hid (tokens_some s h256n HP.out (l := l) (by rw [HK.out, toks_end s i (by omega)]; simp))
            have hHK := HO.out.sls (by unfold maxLen; omega)
            obtain ⟨A, cap, hv, -⟩ := id hHK
            generalize hL9 : l.length = L9 at hv
            have HL9 := Lib.hid hL9
            clear hL9
            have HS := Lib.hid hHK
            have HBE := Lib.hid (BB.out.trans ((HT.out.old (Nat.le_refl _) (fun k hk => by simp [Value.ownBlock] at hk)).mono (by have := BB.out.size; omega)))
            clear hHK
            subst hv
            go_wp2
            try rw [Exit.noGoto_ret]
            go_ret3
            exact ⟨_, _, by rw [HE.out]; rfl, by rw [HE.out]; exact HS.out, HBE.out, fun q hq => by
              rcases HT.out.own q hq with e | e
              · simp [Value.ownBlock] at e
              · exact Nat.le_trans BB.out.size e⟩
end Go.Proofs.YtamcgggmfghljaaGreatDoor
