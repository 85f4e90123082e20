/-
  Plain laws of frames, packets and links: what is written is read back; what comes through is known.
-/
import Derived.Test.YteaniiponikpjaaLnf
import Derived.Test.YteaniiponikpjaaLot
import Derived.Test.YteaniiponikpjaaPln
namespace Go.Proofs.Yteaniiponikpjaa
set_option maxRecDepth 100000
open Go.RowKit

theorem beL_be : ∀ (k : Nat) (n : Int), 0 ≤ n → n < 256 ^ k → beL (be k n) = n
  | 0, n, h0, h1 => by
    have h1 : n < 1 := by simpa using h1
    have h2 : n = 0 := by omega
    subst h2
    rfl
  | k + 1, n, h0, h1 => by
    rw [Int.pow_succ] at h1
    rw [be, beL_snoc, beL_be k (n / 256) (by omega) (by generalize (256 : Int) ^ k = P at *; omega)]
    have hb : ((UInt8.ofNat (n % 256).toNat).toNat : Int) = n % 256 := by
      rw [UInt8.toNat_ofNat']
      omega
    rw [hb]
    omega
theorem getW_at {s : ByteArray} (j k : Nat) (n : Int) (a b : List UInt8) (h : s.data.toList = a ++ (be k n ++ b)) (hj : a.length = j) (h0 : 0 ≤ n) (h1 : n < 256 ^ k) : getW s j k = n := by
  unfold getW
  rw [h, ← hj, List.drop_left, List.take_left' (be_len k n)]
  exact beL_be k n h0 h1
theorem getW_one {s : ByteArray} {a : Nat} (h : a < s.size) : getW s a 1 = (byteN s a : Int) := by
  rw [getW_succ (show a + 0 < s.size by omega) rfl, getW_zero, byteN_is h]
  simp
theorem ext_takeL (s : ByteArray) (n : Nat) : (s.extract 0 n).data.toList = s.data.toList.take n := by
  simp [ByteArray.data_extract]
theorem wsF_be2 {c : Int} (h0 : 0 ≤ c) (h1 : c ≤ 65535) : wsF true (be 2 c) = c := by
  have e : be 2 c = [UInt8.ofNat (c / 256 % 256).toNat, UInt8.ofNat (c % 256).toNat] := rfl
  have a1 : ((UInt8.ofNat (c / 256 % 256).toNat).toNat : Int) = c / 256 % 256 := by
    rw [UInt8.toNat_ofNat']
    omega
  have a2 : ((UInt8.ofNat (c % 256).toNat).toNat : Int) = c % 256 := by
    rw [UInt8.toNat_ofNat']
    omega
  rw [e]
  simp only [wsF, Bool.not_true, Bool.false_eq_true, if_true, if_false, a1, a2]
  omega
theorem foldN_mod (n : Nat) : foldN n % 65535 = n % 65535 := by
  induction n using Nat.strongRecOn with
  | _ n ih =>
    by_cases h : n < 65536
    · rw [foldN_lt h]
    · rw [foldN_ge h, ih _ (by omega)]
      omega
theorem foldN_pos (n : Nat) : (foldN n = 0 → n = 0) ∧ foldN n ≤ n := by
  induction n using Nat.strongRecOn with
  | _ n ih =>
    by_cases h : n < 65536
    · rw [foldN_lt h]
      exact ⟨id, Nat.le_refl _⟩
    · rw [foldN_ge h]
      obtain ⟨h1, h2⟩ := ih (n / 65536 + n % 65536) (by omega)
      exact ⟨fun e => by have := h1 e; omega, by omega⟩
theorem fold_right (n : Nat) : foldN (n + (65535 - foldN n)) = 65535 := by
  have h1 := foldN_mod n
  have h2 := foldN_le n
  obtain ⟨h3, h4⟩ := foldN_pos n
  obtain ⟨m, hm⟩ : ∃ m, n + (65535 - foldN n) = m := ⟨_, rfl⟩
  rw [hm]
  have h5 := foldN_mod m
  have h6 := foldN_le m
  obtain ⟨h7, h8⟩ := foldN_pos m
  omega
theorem sum_right (F E : List UInt8) (hF : F.length % 2 = 0) : sumR (F ++ (be 2 (sumR (F ++ E)) ++ E)) = 0 := by
  obtain ⟨b1, b2⟩ := sumR_bd (F ++ E)
  have hx := wsF_even F E hF
  have hy : wsF true (F ++ (be 2 (sumR (F ++ E)) ++ E)) = wsF true (F ++ E) + sumR (F ++ E) := by
    rw [wsF_even _ _ hF, wsF_even _ _ (by rw [be_len]), wsF_be2 b1 b2, hx]
    omega
  have hp := (wsF_bd (F ++ E) true).1
  show 65535 - (foldN (wsF true (F ++ (be 2 (sumR (F ++ E)) ++ E))).toNat : Int) = 0
  rw [hy]
  have hn : (wsF true (F ++ E) + sumR (F ++ E)).toNat = (wsF true (F ++ E)).toNat + (65535 - foldN (wsF true (F ++ E)).toNat) := by
    have := foldN_le (wsF true (F ++ E)).toNat
    unfold sumR
    omega
  rw [hn, fold_right]
  rfl
theorem wordB_bd {n b : Int} (h : wordB n b = true) : 0 ≤ n ∧ n ≤ 2 ^ b.toNat - 1 := inB_iff.1 (by
  unfold wordB at h
  rw [Bool.and_eq_true] at h
  exact h.2)
theorem beS_list (k : Nat) (n : Int) : (beS k n).data.toList = be k n := by simp [beS]
theorem ba_list (a b : ByteArray) : (a ++ b).data.toList = a.data.toList ++ b.data.toList := by simp [ByteArray.data_append]
/-- A frame that was written is read back. -/
theorem frame_back {dst src ty : Int} {body : ByteArray} (h : frameB dst src ty body = true) :
    okFr (frameS dst src ty body) = true ∧ getW (frameS dst src ty body) 0 6 = dst ∧ getW (frameS dst src ty body) 6 6 = src ∧ getW (frameS dst src ty body) 12 2 = ty ∧ (frameS dst src ty body).extract 14 (frameS dst src ty body).size = body := by
  have h' := h
  unfold frameB at h'
  simp only [Bool.and_eq_true, decide_eq_true_eq] at h'
  obtain ⟨q1, q2, q3, q4⟩ := h'
  obtain ⟨a1, a2⟩ := wordB_bd q1
  obtain ⟨b1, b2⟩ := wordB_bd q2
  obtain ⟨c1, c2⟩ := inB_iff.1 q3
  have e48 : (2 : Int) ^ (48 : Int).toNat - 1 = 281474976710655 := by decide
  rw [e48] at a2 b2
  have hs : frameS dst src ty body = ((beS 6 dst ++ beS 6 src) ++ beS 2 ty) ++ body := by
    unfold frameS
    rw [if_pos h]
  generalize frameS dst src ty body = s at *
  have hl : s.data.toList = be 6 dst ++ (be 6 src ++ (be 2 ty ++ body.data.toList)) := by
    rw [hs]
    simp only [ba_list, beS_list, List.append_assoc]
  have hz : s.size = 14 + body.size := by
    rw [hs]
    simp only [ByteArray.size_append, beS_size]
  have g1 : getW s 0 6 = dst := getW_at 0 6 dst [] (be 6 src ++ (be 2 ty ++ body.data.toList)) (by rw [hl]; rfl) rfl a1 (by omega)
  have g2 : getW s 6 6 = src := getW_at 6 6 src (be 6 dst) (be 2 ty ++ body.data.toList) hl (be_len _ _) b1 (by omega)
  have g3 : getW s 12 2 = ty := getW_at 12 2 ty (be 6 dst ++ be 6 src) body.data.toList (by rw [hl]; simp only [List.append_assoc]) (by rw [List.length_append, be_len, be_len]) (by omega) (by omega)
  have g4 : s.extract 14 s.size = body := by
    apply ba_ext
    rw [ext_list, hl]
    have : be 6 dst ++ (be 6 src ++ (be 2 ty ++ body.data.toList)) = (be 6 dst ++ (be 6 src ++ be 2 ty)) ++ body.data.toList := by simp only [List.append_assoc]
    rw [this, List.drop_left' (by simp only [List.length_append, be_len])]
  refine ⟨?_, g1, g2, g3, g4⟩
  unfold okFr
  rw [g1, g2, g3, g4, h, Bool.and_true, decide_eq_true_eq]
  omega
/-- A packet that was written is read back. -/
theorem pack_back {src dst ttl proto id : Int} {body : ByteArray} (h : packB src dst ttl proto id body = true) :
    pkC (packS src dst ttl proto id body) = 0 ∧ getW (packS src dst ttl proto id body) 12 4 = src ∧ getW (packS src dst ttl proto id body) 16 4 = dst ∧ ((byteN (packS src dst ttl proto id body) 9 : Nat) : Int) = proto ∧ (packS src dst ttl proto id body).extract 20 (getW (packS src dst ttl proto id body) 2 2).toNat = body := by
  have h' := h
  unfold packB at h'
  simp only [Bool.and_eq_true, decide_eq_true_eq] at h'
  obtain ⟨q1, q2, q3, q4, q5, q6⟩ := h'
  obtain ⟨a1, a2⟩ := wordB_bd q1
  obtain ⟨b1, b2⟩ := wordB_bd q2
  obtain ⟨c1, c2⟩ := inB_iff.1 q3
  obtain ⟨d1, d2⟩ := wordB_bd q4
  obtain ⟨e1, e2⟩ := wordB_bd q5
  have e32 : (2 : Int) ^ (32 : Int).toNat - 1 = 4294967295 := by decide
  have e8 : (2 : Int) ^ (8 : Int).toNat - 1 = 255 := by decide
  have e16 : (2 : Int) ^ (16 : Int).toNat - 1 = 65535 := by decide
  rw [e32] at a2 b2
  rw [e8] at d2
  rw [e16] at e2
  have hs : packS src dst ttl proto id body = ((packF ttl proto id body.size ++ beS 2 (sumR (packF ttl proto id body.size ++ packE src dst).data.toList)) ++ packE src dst) ++ body := by
    unfold packS
    rw [if_pos h]
  have hF : (packF ttl proto id body.size).data.toList = be 1 69 ++ (be 1 0 ++ (be 2 (20 + (body.size : Int)) ++ (be 2 id ++ (be 1 0 ++ (be 1 0 ++ (be 1 ttl ++ be 1 proto)))))) := by
    unfold packF
    simp only [ba_list, beS_list, List.append_assoc]
    rfl
  have hE : (packE src dst).data.toList = be 4 src ++ be 4 dst := by
    unfold packE
    simp only [ba_list, beS_list]
  rw [ba_list] at hs
  generalize packS src dst ttl proto id body = s at *
  have hFz := packF_size ttl proto id body.size
  have hEz := packE_size src dst
  generalize packF ttl proto id body.size = F at *
  generalize packE src dst = E at *
  obtain ⟨m1, m2⟩ := sumR_bd (F.data.toList ++ E.data.toList)
  have hFl : F.data.toList.length = 10 := by rw [Array.length_toList]; exact hFz
  have hEl : E.data.toList.length = 8 := by rw [Array.length_toList]; exact hEz
  have hsum := sum_right F.data.toList E.data.toList (by rw [hFl])
  generalize sumR (F.data.toList ++ E.data.toList) = c at *
  have hl : s.data.toList = F.data.toList ++ (be 2 c ++ (E.data.toList ++ body.data.toList)) := by
    rw [hs]
    simp only [ba_list, beS_list, List.append_assoc]
  have hz : s.size = 20 + body.size := by
    rw [hs]
    simp only [ByteArray.size_append, beS_size, hFz, hEz]
  have hx : (s.extract 0 20).data.toList = F.data.toList ++ (be 2 c ++ E.data.toList) := by
    rw [ext_takeL, hl]
    have : F.data.toList ++ (be 2 c ++ (E.data.toList ++ body.data.toList)) = (F.data.toList ++ (be 2 c ++ E.data.toList)) ++ body.data.toList := by simp only [List.append_assoc]
    rw [this, List.take_left' (by simp only [List.length_append, be_len, hFl, hEl])]
  have hb : s.extract 20 s.size = body := by
    apply ba_ext
    rw [ext_list, hl]
    have : F.data.toList ++ (be 2 c ++ (E.data.toList ++ body.data.toList)) = (F.data.toList ++ (be 2 c ++ E.data.toList)) ++ body.data.toList := by simp only [List.append_assoc]
    rw [this, List.drop_left' (by simp only [List.length_append, be_len, hFl, hEl])]
  have g12 : getW s 12 4 = src := getW_at 12 4 src (F.data.toList ++ be 2 c) (be 4 dst ++ body.data.toList) (by rw [hl, hE]; simp only [List.append_assoc]) (by rw [List.length_append, be_len, hFl]) a1 (by omega)
  have g16 : getW s 16 4 = dst := getW_at 16 4 dst (F.data.toList ++ (be 2 c ++ be 4 src)) body.data.toList (by rw [hl, hE]; simp only [List.append_assoc]) (by simp only [List.length_append, be_len, hFl]) b1 (by omega)
  rw [hF] at hl
  simp only [List.append_assoc] at hl
  have g0 : getW s 0 1 = 69 := getW_at 0 1 69 [] _ (by rw [hl]; rfl) rfl (by omega) (by omega)
  have g2 : getW s 2 2 = 20 + (body.size : Int) := getW_at 2 2 _ (be 1 69 ++ be 1 0) _ (by rw [hl, List.append_assoc]) rfl (by omega) (by omega)
  have g6 : getW s 6 1 = 0 := getW_at 6 1 0 (be 1 69 ++ (be 1 0 ++ (be 2 (20 + (body.size : Int)) ++ be 2 id))) _ (by rw [hl]; simp only [List.append_assoc]; rfl) (by simp only [List.length_append, be_len]) (by omega) (by omega)
  have g7 : getW s 7 1 = 0 := getW_at 7 1 0 (be 1 69 ++ (be 1 0 ++ (be 2 (20 + (body.size : Int)) ++ (be 2 id ++ be 1 0)))) _ (by rw [hl]; simp only [List.append_assoc]; rfl) (by simp only [List.length_append, be_len]) (by omega) (by omega)
  have g8 : getW s 8 1 = ttl := getW_at 8 1 ttl (be 1 69 ++ (be 1 0 ++ (be 2 (20 + (body.size : Int)) ++ (be 2 id ++ (be 1 0 ++ be 1 0))))) _ (by rw [hl]; simp only [List.append_assoc]; rfl) (by simp only [List.length_append, be_len]) (by omega) (by omega)
  have g9 : getW s 9 1 = proto := getW_at 9 1 proto (be 1 69 ++ (be 1 0 ++ (be 2 (20 + (body.size : Int)) ++ (be 2 id ++ (be 1 0 ++ (be 1 0 ++ be 1 ttl)))))) _ (by rw [hl]; simp only [List.append_assoc]; rfl) (by simp only [List.length_append, be_len]) (by omega) (by omega)
  rw [getW_one (by omega)] at g0 g6 g7 g8 g9
  have f0 : byteN s 0 = 69 := by omega
  have f6 : byteN s 6 = 0 := by omega
  have f7 : byteN s 7 = 0 := by omega
  have hfr : fragB s = true := by
    unfold fragB
    rw [f6, f7]
    rfl
  refine ⟨?_, g12, g16, g9, ?_⟩
  · unfold pkC
    rw [if_neg (by omega), if_neg (by omega), hx, if_neg (by rw [hsum]; simp), if_neg (by omega), hfr, if_neg (by simp), if_neg (by omega)]
  · rw [g2, show (20 + (body.size : Int)).toNat = s.size by omega]
    exact hb
/-- What the other link reads of what was sent to it. -/
theorem back_read {x : RLnk} {ip hw : Int} {body : ByteArray} (hp : packB x.ip ip 64 6 0 body = true) (hf : frameB hw x.mac 2048 (packS x.ip ip 64 6 0 body) = true) :
    okFr (frameS hw x.mac 2048 (packS x.ip ip 64 6 0 body)) = true ∧
    frR (frameS hw x.mac 2048 (packS x.ip ip 64 6 0 body)) = .agg #[.int .i64 hw, .int .i64 x.mac, .int .i64 2048, .string (packS x.ip ip 64 6 0 body)] ∧
    (frameS hw x.mac 2048 (packS x.ip ip 64 6 0 body)).size ≤ 1600 ∧ (packS x.ip ip 64 6 0 body).size ≤ 1600 ∧
    pkC (packS x.ip ip 64 6 0 body) = 0 ∧
    ∃ p3 p5 : Int, pkR (packS x.ip ip 64 6 0 body) = .agg #[.int .i64 x.ip, .int .i64 ip, .int .i64 p3, .int .i64 6, .int .i64 p5, .string body] := by
  obtain ⟨a1, a2, a3, a4, a5⟩ := frame_back hf
  obtain ⟨b1, b2, b3, b4, b5⟩ := pack_back hp
  have hpz : (packS x.ip ip 64 6 0 body).size ≤ 1586 := by
    unfold frameB at hf
    simp only [Bool.and_eq_true, decide_eq_true_eq] at hf
    omega
  refine ⟨a1, ?_, ?_, by omega, b1, (byteN (packS x.ip ip 64 6 0 body) 8 : Int), getW (packS x.ip ip 64 6 0 body) 4 2, ?_⟩
  · unfold frR
    rw [if_pos a1, a2, a3, a4, a5]
  · unfold frameS
    rw [if_pos hf]
    simp only [ByteArray.size_append, beS_size]
    omega
  · unfold pkR
    rw [if_pos b1, b2, b3, b4, b5]
theorem ok_cache {x : RLnk} : x.ok = true ↔ wordB x.mac 48 = true ∧ ¬ x.mac = 281474976710655 ∧ wordB x.ip 32 = true ∧ cacheB x.ca = true := by
  unfold RLnk.ok
  simp
theorem ok_learned {x : RLnk} {ip hw : Int} (h : x.ok = true) (h1 : wordB ip 32 = true) (h2 : wordB hw 48 = true) : (⟨x.mac, x.ip, learnedR x.ca ip hw⟩ : RLnk).ok = true ∧ hwR (learnedR x.ca ip hw) ip = (hw, true) := by
  obtain ⟨a, b, c, d⟩ := ok_cache.1 h
  obtain ⟨e1, e2, -, -⟩ := learned_law d h1 h2
  exact ⟨ok_cache.2 ⟨a, b, c, e2⟩, e1⟩
/-- What the other link makes of it. -/
theorem back_law {x : RLnk} {ip hw k1 k2 k3 k5 : Int} {BA : Bool} {pk : Value} {P body : ByteArray} (hp : packB x.ip ip 64 6 0 body = true) (hf : frameB hw x.mac 2048 P = true) :
    ∃ r : List REntry, linkRF ⟨hw, ip, []⟩ true hw x.mac 2048 BA k1 k2 k3 k5 0 x.ip ip 6 pk = if hw = 281474976710655 ∨ ip = x.ip then (r, 0, zPk, ⟨#[]⟩) else (r, 2, pk, ⟨#[]⟩) := by
  have h1 : wordB hw 48 = true := by
    unfold frameB at hf
    simp only [Bool.and_eq_true] at hf
    exact hf.1
  have h2 : wordB ip 32 = true := by
    unfold packB at hp
    simp only [Bool.and_eq_true] at hp
    exact hp.2.1
  by_cases he : hw = 281474976710655
  · have hno : (⟨hw, ip, []⟩ : RLnk).ok = false := by
      rw [Bool.eq_false_iff]
      intro h
      exact (ok_cache.1 h).2.1 he
    refine ⟨[], ?_⟩
    rw [if_pos (Or.inl he)]
    unfold linkRF
    rw [hno]
    rfl
  · have hok : (⟨hw, ip, []⟩ : RLnk).ok = true := ok_cache.2 ⟨h1, he, h2, rfl⟩
    by_cases hq : ip = x.ip
    · refine ⟨[], ?_⟩
      rw [if_pos (Or.inr hq)]
      unfold linkRF
      rw [hok]
      simp [hq]
    · refine ⟨learnedR [] x.ip x.mac, ?_⟩
      rw [if_neg (by rintro (h | h); exact he h; exact hq h)]
      unfold linkRF
      rw [hok]
      have hq' : ¬ x.ip = ip := fun e => hq e.symm
      simp [hq']
/-- What FnLink asks of what LinkIn makes. -/
theorem link_law {x : RLnk} {B BA : Bool} {f1 f2 f3 k1 k2 k3 k5 pc p1 p2 p4 : Int} {pk : Value} (h1 : B = true → wordB f2 48 = true) (h2 : BA = true → wordB k2 48 = true ∧ wordB k3 32 = true) (h3 : pc = 0 → wordB p1 32 = true) :
    ∃ r : List REntry, (x.ok = true → (⟨x.mac, x.ip, r⟩ : RLnk).ok = true) ∧
      ((linkRF x B f1 f2 f3 BA k1 k2 k3 k5 pc p1 p2 p4 pk = (r, 0, zPk, ⟨#[]⟩)) ∨
       (∃ A, linkRF x B f1 f2 f3 BA k1 k2 k3 k5 pc p1 p2 p4 pk = (r, 1, zPk, frameS k2 x.mac 2054 A) ∧ frameB k2 x.mac 2054 A = true ∧ x.ok = true) ∨
       (linkRF x B f1 f2 f3 BA k1 k2 k3 k5 pc p1 p2 p4 pk = (r, 2, pk, ⟨#[]⟩) ∧ p2 = x.ip ∧ p4 = 6 ∧ hwR r p1 = (f2, true) ∧ x.ok = true)) := by
  unfold linkRF
  split
  · rename_i h
    rw [Bool.and_eq_true, Bool.and_eq_true] at h
    obtain ⟨hx, hB, -⟩ := h
    split
    · split
      · rename_i h
        rw [Bool.and_eq_true] at h
        obtain ⟨g1, g2⟩ := h2 h.1
        have hl := (ok_learned hx g2 g1).1
        split
        · rename_i hrep
          refine ⟨_, fun _ => hl, Or.inr (Or.inl ⟨_, rfl, ?_, hx⟩)⟩
          have hm := (ok_cache.1 hx).1
          have hz : (arpS 2 x.mac x.ip k2 k3).size ≤ 28 := by
            unfold arpS
            split
            · simp only [ByteArray.size_append, beS_size]
              decide
            · decide
          unfold frameB
          rw [g1, hm]
          simp only [Bool.true_and, Bool.and_eq_true, decide_eq_true_eq]
          exact ⟨rfl, by omega⟩
        · exact ⟨_, fun _ => hl, Or.inl rfl⟩
      · exact ⟨_, fun h => h, Or.inl rfl⟩
    · split
      · split
        · rename_i h
          obtain ⟨q1, q2, q3, q4⟩ := h
          obtain ⟨l1, l2⟩ := ok_learned hx (h3 q1) (h1 hB)
          exact ⟨_, fun _ => l1, Or.inr (Or.inr ⟨rfl, q2, q3, l2, hx⟩)⟩
        · exact ⟨_, fun h => h, Or.inl rfl⟩
      · exact ⟨_, fun h => h, Or.inl rfl⟩
  · exact ⟨_, fun h => h, Or.inl rfl⟩
theorem frR_form2 (s : ByteArray) (hz : s.size ≤ 1048576) : ∃ (f1 f2 f3 : Int) (f4 : ByteArray), frR s = .agg #[.int .i64 f1, .int .i64 f2, .int .i64 f3, .string f4] ∧ f4.size ≤ 1048576 ∧ (okFr s = true → wordB f2 48 = true) := by
  unfold frR
  split
  · refine ⟨_, _, _, _, rfl, by rw [ByteArray.size_extract]; omega, fun h => ?_⟩
    unfold okFr frameB at h
    simp only [Bool.and_eq_true] at h
    exact h.2.2.1
  · rename_i h
    exact ⟨_, _, _, _, rfl, by decide, fun e => absurd e h⟩
theorem arR_form2 (s : ByteArray) : ∃ (k1 k2 k3 k4 k5 : Int), arR s = .agg #[.int .i64 k1, .int .i64 k2, .int .i64 k3, .int .i64 k4, .int .i64 k5] ∧ (okAr s = true → wordB k2 48 = true ∧ wordB k3 32 = true) := by
  unfold arR
  split
  · refine ⟨_, _, _, _, _, rfl, fun h => ?_⟩
    unfold okAr arpB at h
    simp only [Bool.and_eq_true] at h
    exact ⟨h.2.2.2.1, h.2.2.2.2.2.1⟩
  · rename_i h
    exact ⟨_, _, _, _, _, rfl, fun e => absurd e h⟩
theorem getW4_bd (s : ByteArray) (a : Nat) : wordB (getW s a 4) 32 = true := by
  obtain ⟨h1, h2⟩ := beL_bd _ ((s.data.toList.drop a).take 4) rfl
  have hl : ((s.data.toList.drop a).take 4).length ≤ 4 := by rw [List.length_take]; omega
  generalize hn : ((s.data.toList.drop a).take 4).length = n at *
  have h3 : (256 : Int) ^ n ≤ 4294967296 := by
    rcases (by omega : n = 0 ∨ n = 1 ∨ n = 2 ∨ n = 3 ∨ n = 4) with rfl | rfl | rfl | rfl | rfl <;> decide
  have h4 : 0 ≤ getW s a 4 ∧ getW s a 4 ≤ 4294967295 := by
    unfold getW
    omega
  unfold wordB
  rw [Bool.and_eq_true]
  exact ⟨rfl, inB_iff.2 h4⟩
theorem pkR_form2 (s : ByteArray) : ∃ (p1 p2 p3 p4 p5 : Int) (p6 : ByteArray), pkR s = .agg #[.int .i64 p1, .int .i64 p2, .int .i64 p3, .int .i64 p4, .int .i64 p5, .string p6] ∧ (pkC s = 0 → wordB p1 32 = true) := by
  unfold pkR
  split
  · exact ⟨_, _, _, _, _, _, rfl, fun _ => getW4_bd s 12⟩
  · rename_i h
    exact ⟨_, _, _, _, _, _, rfl, fun e => absurd e h⟩
end Go.Proofs.Yteaniiponikpjaa
