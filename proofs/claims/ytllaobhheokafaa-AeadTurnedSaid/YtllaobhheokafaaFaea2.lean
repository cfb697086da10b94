/- Plain facts on what bytes are sealed to and opened to. No program in sight; each fact under the conditions that it states. -/
import Derived.Test.YtllaobhheokafaaFaead
namespace Go.Proofs.Ytllaobhheokafaa.F
open Go.RowKit Go.Proofs.Ytllaobhheokafaa.Q Go.Proofs.YtllaobhheokafaaW.PrintWords Go.Proofs.YtllaobhheokafaaW.PrintLast Go.Proofs.YtllaobhheokafaaW.PrintMore
set_option linter.unusedVariables false
theorem or8_zero (a b : Int) (ha : 0 ≤ a ∧ a < 256) (hb : 0 ≤ b ∧ b < 256) : (0 ≤ Go.bits .or .u8 a b ∧ Go.bits .or .u8 a b < 256) ∧ (Go.bits .or .u8 a b = 0 ↔ a = 0 ∧ b = 0) := by
  obtain ⟨x, rfl⟩ := Int.eq_ofNat_of_zero_le ha.1
  obtain ⟨y, rfl⟩ := Int.eq_ofNat_of_zero_le hb.1
  have hx : x < 2 ^ 8 := by omega
  have hy : y < 2 ^ 8 := by omega
  rw [(bits_nat .u8 8 (by decide) wraps_u8 x y hx hy).2]
  have h1 := Nat.or_lt_two_pow hx hy
  have h2 : x ≤ x ||| y := Nat.left_le_or
  have h3 : y ≤ x ||| y := Nat.right_le_or
  refine ⟨⟨by omega, by omega⟩, ⟨fun h => ⟨by omega, by omega⟩, fun h => ?_⟩⟩
  obtain rfl : x = 0 := by omega
  obtain rfl : y = 0 := by omega
  rfl
theorem xor8_zero (a b : Int) (ha : 0 ≤ a ∧ a < 256) (hb : 0 ≤ b ∧ b < 256) : Go.bits .xor .u8 a b = 0 ↔ a = b := by
  obtain ⟨x, rfl⟩ := Int.eq_ofNat_of_zero_le ha.1
  obtain ⟨y, rfl⟩ := Int.eq_ofNat_of_zero_le hb.1
  have hx : x % 2 ^ IntKind.u8.bits = x := Nat.mod_eq_of_lt (by simp [IntKind.bits]; omega)
  have hy : y % 2 ^ IntKind.u8.bits = y := Nat.mod_eq_of_lt (by simp [IntKind.bits]; omega)
  have hlt : x ^^^ y < 2 ^ 8 := Nat.xor_lt_two_pow (by omega) (by omega)
  simp only [Go.bits, BitVec.ofInt_natCast, BitVec.toNat_xor, BitVec.toNat_ofNat, hx, hy]
  rw [IntKind.wrap_u8]
  have h1 : x ^^^ y = 0 → x = y := fun h => by
    have e : x ^^^ (x ^^^ y) = y := by rw [← Nat.xor_assoc, Nat.xor_self, Nat.zero_xor]
    rw [h, Nat.xor_zero] at e
    exact e
  have h2 : x = y → x ^^^ y = 0 := fun h => by rw [h, Nat.xor_self]
  constructor
  · intro h
    exact_mod_cast h1 (by omega)
  · intro h
    have := h2 (by omega)
    omega
theorem take_more (a b : List Int) (i : Nat) (ha : i < a.length) (hb : i < b.length) : a.take (i + 1) = b.take (i + 1) ↔ a.take i = b.take i ∧ rd a i = rd b i := by
  have ra : rd a i = a[i] := by simp [rd, List.getD_eq_getElem?_getD, ha]
  have rb : rd b i = b[i] := by simp [rd, List.getD_eq_getElem?_getD, hb]
  rw [List.take_succ_eq_append_getElem ha, List.take_succ_eq_append_getElem hb, ra, rb]
  constructor
  · intro h
    have := List.append_inj' h rfl
    exact ⟨this.1, by simpa using this.2⟩
  · rintro ⟨h1, h2⟩
    rw [h1, h2]
theorem hsame_ev (a b : List Int) (ha : Bytes a) (hb : Bytes b) (hn : a.length ≤ 140737488355328) : Ev (fun k => hmac_Same.f k a b) (decide (a = b)) := by
  unfold hmac_Same.f
  by_cases hl : (a.length : Int) = (b.length : Int)
  · simp only [if_pos hl]
    have hl' : a.length = b.length := by omega
    have key : ∀ (d i : Nat) (x : Int), a.length - i = d → i ≤ a.length → (0 ≤ x ∧ x < 256) → (x = 0 ↔ a.take i = b.take i) → Ev (fun k => hmac_Same.l0 k a b x (a.length : Int) (i : Int)) (decide (a = b)) := by
      intro d
      induction d with
      | zero =>
        intro i x hd hi hx hxe
        obtain rfl : i = a.length := by omega
        refine Ev.step (f := fun _ => some (x == 0)) (fun k => ?_) ?_
        · simp only [hmac_Same.l0]; rw [if_neg (by omega)]
        · rw [List.take_of_length_le (Nat.le_refl _), List.take_of_length_le (by omega)] at hxe
          have : (x == 0) = decide (a = b) := by
            by_cases h : a = b
            · rw [decide_eq_true h, beq_iff_eq]; exact hxe.2 h
            · rw [decide_eq_false h, beq_eq_false_iff_ne]; exact fun h2 => h (hxe.1 h2)
          rw [this]
          exact Ev.now _
      | succ d ih =>
        intro i x hd hi hx hxe
        have h1 : i < a.length := by omega
        have hor := or8_zero x (Go.bits .xor .u8 (rd a i) (rd b i)) hx (xor_range _ _)
        have hxz := xor8_zero (rd a i) (rd b i) (bytes_rd ha _) (bytes_rd hb _)
        refine Ev.step (f := fun k => hmac_Same.l0 k a b (Go.bits .or .u8 x (Go.bits .xor .u8 (rd a i) (rd b i))) (a.length : Int) ((i + 1 : Nat) : Int)) (fun k => ?_) (ih (i + 1) _ (by omega) (by omega) hor.1 ?_)
        · simp only [hmac_Same.l0]
          rw [if_pos (by omega), if_pos (by omega), if_pos (by omega), if_pos (by omega), w64 (by omega) (by omega)]
          rfl
        · rw [hor.2, hxe, hxz, take_more a b i h1 (by omega)]
    exact key a.length 0 0 (by omega) (by omega) (by decide) (by simp)
  · simp only [if_neg hl]
    have : ¬ a = b := fun e => hl (by rw [e])
    rw [decide_eq_false this]
    exact Ev.now _
theorem same17_ev (a b : List Int) (ha : a.length ≤ 140737488355328) : Ev (fun k => casketlaw17_same.f k a b) (decide (a = b)) := by
  unfold casketlaw17_same.f
  exact Ev.bind (same_ev a b ha) (Ev.now _)
theorem bytN_bytes (m : List Int) : ∀ n, Bytes (bytN m n)
  | 0 => fun x hx => by
    rw [List.eq_of_mem_replicate hx]
    decide
  | n + 1 => fun x hx => by
    rw [bytN] at hx
    rcases List.mem_or_eq_of_mem_set hx with h1 | h1
    · exact bytN_bytes m n x h1
    · rw [h1]; omega
theorem macP_bytes (key b : List Int) : Bytes (macP key b) := bytN_bytes _ _
theorem lowN_bytes (n : Int) : ∀ i, Bytes (lowN n i)
  | 0 => fun x hx => by cases hx
  | i + 1 => Bytes.append (lowN_bytes n i) (fun x hx => by rw [List.mem_singleton] at hx; omega)
theorem padB_bytes {b : List Int} (hb : Bytes b) : Bytes (padB b) := Bytes.append hb (fun x hx => by rw [List.eq_of_mem_replicate hx]; decide)
theorem aeadT_bytes {a c : List Int} (ha : Bytes a) (hc : Bytes c) : Bytes (aeadT a c) := Bytes.append (Bytes.append (padB_bytes ha) (padB_bytes hc)) (padB_bytes (Bytes.append (lowN_bytes _ _) (lowN_bytes _ _)))
theorem aeadT_length (a c : List Int) (ha : a.length ≤ 68719476736) (hc : c.length ≤ 68719476736) : (aeadT a c).length ≤ 274877906944 := by
  have h1 := padB_length a
  have h2 := padB_length c
  have h3 := padB_length (lowN (a.length : Int) 8 ++ lowN (c.length : Int) 8)
  have h4 : (lowN (a.length : Int) 8 ++ lowN (c.length : Int) 8).length = 16 := by rw [List.length_append, lowN_length, lowN_length]
  rw [aeadT, List.length_append, List.length_append]
  omega
/-- The tag of bytes that were streamed. -/
def tagW (key nonce ad c : List Int) : List Int := macP ((blockW key 0 nonce).take 32) (aeadT ad c)
theorem tagW_length (key nonce ad c : List Int) : (tagW key nonce ad c).length = 16 := macP_length _ _
theorem tagW_bytes (key nonce ad c : List Int) : Bytes (tagW key nonce ad c) := macP_bytes _ _
theorem tag_f (key nonce ad c : List Int) (hk : key.length = 32) (hn : nonce.length = 12) (ha : ad.length ≤ 68719476736) (hc : c.length ≤ 68719476736) (Ha : Bytes ad) (Hc : Bytes c) : aead_tag.f key nonce ad c = some (tagW key nonce ad c, 0) := by
  have hl : (blockW key 0 nonce).length = 64 := blockW_length key 0 nonce
  unfold aead_tag.f
  rw [block_f key 0 nonce hk hn]
  simp only [Option.bind_some, if_true]
  rw [if_pos ⟨by omega, ha, hc⟩]
  exact pmac_f _ _ (by rw [List.length_take]; omega) (fun x hx => blockW_bytes _ _ _ x (List.mem_of_mem_take hx)) (aeadT_bytes Ha Hc) (aeadT_length _ _ ha hc)
theorem tag_f_none (key nonce ad c : List Int) (h : ¬(key.length = 32 ∧ nonce.length = 12)) : aead_tag.f key nonce ad c = some ([], 1) := by
  unfold aead_tag.f
  rw [block_f_none key 0 nonce h]
  rfl
/-- What bytes are sealed to. -/
def sealW (key nonce ad p : List Int) : List Int := streamW key 1 nonce p ++ tagW key nonce ad (streamW key 1 nonce p)
theorem sealW_length (key nonce ad p : List Int) : (sealW key nonce ad p).length = p.length + 16 := by rw [sealW, List.length_append, streamW_length, tagW_length]
theorem sealW_bytes (key nonce ad p : List Int) : Bytes (sealW key nonce ad p) := Bytes.append (streamW_bytes _ _ _ _) (tagW_bytes _ _ _ _)
theorem seal_f (k : Nat) (key nonce ad p : List Int) (hk : key.length = 32) (hn : nonce.length = 12) (ha : ad.length ≤ 68719476736) (hp : p.length ≤ 100000) (Ha : Bytes ad) : aead_Seal.f k key nonce ad p = some (sealW key nonce ad p, 0) := by
  have hl := streamW_length key 1 nonce p
  have ht := tagW_length key nonce ad (streamW key 1 nonce p)
  unfold aead_Seal.f
  rw [stream_f k key 1 nonce p hk hn (by omega) (by decide), if_pos (by omega)]
  simp only [Option.bind_some, if_true]
  rw [tag_f key nonce ad _ hk hn ha (by omega) Ha (streamW_bytes _ _ _ _)]
  simp only [Option.bind_some]
  rw [if_pos (by omega)]
  rfl
theorem seal_f_none (k : Nat) (key nonce ad p : List Int) (h : ¬(key.length = 32 ∧ nonce.length = 12)) : aead_Seal.f k key nonce ad p = some ([], 1) := by
  unfold aead_Seal.f
  rw [stream_f_none k key 1 nonce p h]
  rfl
/-- What bytes are opened to. -/
def openW (key nonce ad s : List Int) : List Int × Int :=
  if s.length < 16 then ([], 2) else if tagW key nonce ad (s.take (s.length - 16)) = s.drop (s.length - 16) then (streamW key 1 nonce (s.take (s.length - 16)), 0) else ([], 5)
theorem open_ev (key nonce ad s : List Int) (hk : key.length = 32) (hn : nonce.length = 12) (ha : ad.length ≤ 68719476736) (hs : s.length ≤ 100000) (Ha : Bytes ad) (Hs : Bytes s) : Ev (fun k => aead_Open.f k key nonce ad s) (openW key nonce ad s) := by
  unfold aead_Open.f openW
  rw [w64 (n := (s.length : Int) - 16) (by omega) (by omega)]
  by_cases h : s.length < 16
  · have hm : mx ((s.length : Int) - 16) 0 = 0 := by unfold mx; split <;> omega
    simp only [if_pos h, hm]
    refine Ev.congr (f := fun _ => some ([], 2)) (fun k => ?_) (Ev.now _)
    rw [if_pos (by decide), if_pos (by omega)]
    have : s.take (0 : Int).toNat = [] := rfl
    rw [this, tag_f key nonce ad [] hk hn ha (by simp) Ha (fun x hx => by cases hx)]
    simp only [Option.bind_some, if_true]
    rw [if_pos (by omega)]
  · have hm : mx ((s.length : Int) - 16) 0 = (s.length : Int) - 16 := by unfold mx; split <;> omega
    have hn' : ((s.length : Int) - 16).toNat = s.length - 16 := by omega
    simp only [if_neg h, hm, hn']
    refine Ev.congr (f := fun k => (hmac_Same.f k (tagW key nonce ad (s.take (s.length - 16))) (s.drop (s.length - 16))).bind fun t606 => (if t606 = true then ((chacha_Stream.f k key 1 nonce (s.take (s.length - 16))).bind fun bt608 => (some (bt608.1, bt608.2))) else (some (([] : List Int), 5)))) (fun k => ?_) ?_
    · rw [if_pos (by omega), if_pos (by omega), tag_f key nonce ad _ hk hn ha (by rw [List.length_take]; omega) Ha (fun x hx => Hs x (List.mem_of_mem_take hx))]
      simp only [Option.bind_some, if_true]
      rw [if_neg (by omega), if_pos (by omega), if_pos (by omega)]
    refine Ev.bind (hsame_ev _ _ (tagW_bytes _ _ _ _) (fun x hx => Hs x (List.mem_of_mem_drop hx)) (by rw [tagW_length]; decide)) ?_
    by_cases he : tagW key nonce ad (s.take (s.length - 16)) = s.drop (s.length - 16)
    · rw [decide_eq_true he, if_pos he]
      simp only [if_true]
      refine Ev.congr (f := fun _ => some (streamW key 1 nonce (s.take (s.length - 16)), 0)) (fun k => ?_) (Ev.now _)
      rw [stream_f k key 1 nonce _ hk hn (by rw [List.length_take]; omega) (by decide), if_pos (by rw [List.length_take]; omega)]
      rfl
    · rw [decide_eq_false he, if_neg he]
      exact Ev.now _
theorem open_none (key nonce ad s : List Int) (h : ¬(key.length = 32 ∧ nonce.length = 12)) (hs : s.length ≤ 100000) (k : Nat) : aead_Open.f k key nonce ad s = some ([], 1) := by
  unfold aead_Open.f
  rw [w64 (n := (s.length : Int) - 16) (by omega) (by omega)]
  have hm : 0 ≤ mx ((s.length : Int) - 16) 0 ∧ mx ((s.length : Int) - 16) 0 ≤ s.length := by unfold mx; split <;> omega
  rw [if_pos hm.1, if_pos hm.2, tag_f_none key nonce ad _ h]
  rfl
theorem open_seal (key nonce ad p : List Int) (Hp : Bytes p) : openW key nonce ad (sealW key nonce ad p) = (p, 0) := by
  have hl := sealW_length key nonce ad p
  have h1 : (sealW key nonce ad p).length - 16 = (streamW key 1 nonce p).length := by rw [hl, streamW_length]; omega
  unfold openW
  rw [if_neg (by omega), h1]
  have e1 : (sealW key nonce ad p).take (streamW key 1 nonce p).length = streamW key 1 nonce p := by rw [sealW, List.take_left' rfl]
  have e2 : (sealW key nonce ad p).drop (streamW key 1 nonce p).length = tagW key nonce ad (streamW key 1 nonce p) := by rw [sealW, List.drop_left' rfl]
  rw [e1, e2, if_pos rfl, stream_back key 1 nonce p Hp]
theorem seal_open (key nonce ad s : List Int) (Hs : Bytes s) (h : (openW key nonce ad s).2 = 0) : sealW key nonce ad (openW key nonce ad s).1 = s ∧ (openW key nonce ad s).1.length ≤ s.length := by
  unfold openW at h ⊢
  by_cases h1 : s.length < 16
  · rw [if_pos h1] at h
    exact absurd h (by decide)
  · rw [if_neg h1] at h ⊢
    by_cases h2 : tagW key nonce ad (s.take (s.length - 16)) = s.drop (s.length - 16)
    · rw [if_pos h2] at h ⊢
      constructor
      · show sealW key nonce ad (streamW key 1 nonce (s.take (s.length - 16))) = s
        rw [sealW, stream_back key 1 nonce _ (fun x hx => Hs x (List.mem_of_mem_take hx)), h2, List.take_append_drop]
      · show (streamW key 1 nonce (s.take (s.length - 16))).length ≤ s.length
        rw [streamW_length, List.length_take]
        omega
    · rw [if_neg h2] at h
      exact absurd h (by decide)
theorem open_fst (key nonce ad s : List Int) (h : (openW key nonce ad s).2 ≠ 0) : (openW key nonce ad s).1 = [] := by
  unfold openW at h ⊢
  split
  · rfl
  · rename_i h1
    rw [if_neg h1] at h
    split
    · rename_i h2
      rw [if_pos h2] at h
      exact absurd rfl h
    · rfl
theorem awake17 : Ev (fun k => casketlaw17_awake.f k) true := by
  have hz : Bytes (List.replicate 32 0) := fun x hx => by rw [List.eq_of_mem_replicate hx]; decide
  have habc : Bytes [97, 98, 99] := by
    have : ∀ x ∈ [97, 98, 99], (0 : Int) ≤ x ∧ x < 256 := by decide
    exact this
  obtain ⟨s, hs⟩ : ∃ s, s = sealW (List.replicate 32 0) ((List.replicate 32 (0 : Int)).take 12) [] [97, 98, 99] := ⟨_, rfl⟩
  have hsl : s.length = 19 := by rw [hs, sealW_length]; rfl
  have Hs : Bytes s := by rw [hs]; exact sealW_bytes _ _ _ _
  have e1 : Ev (fun k => aead_Open.f k (List.replicate 32 0) ((List.replicate 32 (0 : Int)).take 12) [] s) ([97, 98, 99], 0) := by
    have := open_ev (List.replicate 32 0) ((List.replicate 32 (0 : Int)).take 12) [] s (by decide) (by decide) (by decide) (by omega) (fun x hx => by cases hx) Hs
    rw [show openW (List.replicate 32 0) ((List.replicate 32 (0 : Int)).take 12) [] s = ([97, 98, 99], 0) by rw [hs]; exact open_seal _ _ _ _ habc] at this
    exact this
  have e2 : Ev (fun k => aead_Open.f k (List.replicate 32 0) ((List.replicate 32 (0 : Int)).take 12) [] (s.take 15)) ([], 2) := by
    have := open_ev (List.replicate 32 0) ((List.replicate 32 (0 : Int)).take 12) [] (s.take 15) (by decide) (by decide) (by decide) (by rw [List.length_take]; omega) (fun x hx => by cases hx) (fun x hx => Hs x (List.mem_of_mem_take hx))
    rw [show openW (List.replicate 32 0) ((List.replicate 32 (0 : Int)).take 12) [] (s.take 15) = ([], 2) by unfold openW; rw [if_pos (by rw [List.length_take]; omega)]] at this
    exact this
  refine Ev.congr (f := fun k => (aead_Open.f k (List.replicate 32 0) ((List.replicate 32 (0 : Int)).take 12) [] s).bind fun bt630 => (aead_Open.f k (List.replicate 32 0) ((List.replicate 32 (0 : Int)).take 12) [] (s.take 15)).bind fun bt642 => (if bt630.2 = 0 then ((casketlaw17_same.f k bt630.1 [97, 98, 99]).bind fun t649 => (if t649 = true then (some (bt642.2 == 2)) else (some false))) else (some false))) (fun k => ?_) ?_
  · unfold casketlaw17_awake.f
    have hmn : mn (s.length : Int) 15 = 15 := by unfold mn; split <;> omega
    have hm2 : mn (19 : Int) 15 = 15 := by unfold mn; split <;> omega
    rw [if_pos (by decide)]
    simp only [Option.bind_some]
    rw [if_pos (by decide), seal_f k _ _ _ _ (by decide) (by decide) (by decide) (by decide) (fun x hx => by cases hx), ← hs]
    simp only [Option.bind_some, hmn]
    rw [hsl]
    rfl
  · refine Ev.bind e1 ?_
    refine Ev.bind e2 ?_
    have := same17_ev [97, 98, 99] [97, 98, 99] (by decide)
    rw [decide_eq_true rfl] at this
    simp only [if_true]
    refine Ev.bind this ?_
    simp only [if_true]
    exact Ev.now _
end Go.Proofs.Ytllaobhheokafaa.F
