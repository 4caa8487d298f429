/- Plain: a device with a journal of lines. -/
import Derived.Test.YtphalijdanmkeaaAI
import Derived.Test.YtphalijdanmkeaaPE
import Derived.Test.YtphalijdanmkeaaW
namespace Go.Proofs.Ytphalijdanmkeaa
open J

/-- a device of n bytes with the journal of lines -/
def J.dev (L : List (List UInt8)) (n : Nat) : List UInt8 := journal L ++ List.replicate (n - good L) 0
theorem journal_len (L : List (List UInt8)) : (journal L).length = good L := jfrom_len L 0
theorem dev_len {L : List (List UInt8)} {n : Nat} (h : good L ≤ n) : (dev L n).length = n := by simp [dev, journal_len]; omega

theorem formed_of {b : List UInt8} {N : Nat} (h : b.length = 32 * N) (h1 : 1 ≤ N) (h2 : N ≤ 250) : formed b = true := by
  have hd : 32 * N / 32 = N := by omega
  have hm : 32 * N % 32 = 0 := by omega
  simp [formed, h, hd, hm, h1, h2]
theorem formed_div {b : List UInt8} (h : formed b = true) : b.length = 32 * (b.length / 32) ∧ 1 ≤ b.length / 32 ∧ b.length / 32 ≤ 250 := by
  simp only [formed, Bool.and_eq_true, decide_eq_true_eq] at h
  omega

theorem read_dev {L : List (List UInt8)} {n : Nat} (h : ∀ s ∈ L, isLine s = true) (hl : L.length ≤ 60) : read (dev L n) = L :=
  read_journal h hl (recover_zeros _ _ _)
theorem clean_dev {L : List (List UInt8)} {n : Nat} (h : ∀ s ∈ L, isLine s = true) (hl : L.length ≤ 60) : clean (dev L n) = true := by
  rw [clean, read_dev h hl]
  have : (dev L n).drop (good L) = List.replicate (n - good L) 0 := by rw [dev, ← journal_len, List.drop_left]
  rw [this]
  simp
theorem checkD_dev {L : List (List UInt8)} {n N : Nat} (h : ∀ s ∈ L, isLine s = true) (hl : L.length ≤ 60) (hg : good L ≤ n) (hn : n = 32 * N) (h1 : 1 ≤ N) (h2 : N ≤ 250) : checkD (dev L n) = 0 := by
  rw [checkD, formed_of ((dev_len hg).trans hn) h1 h2, clean_dev h hl]
  rfl

theorem journal_snoc (L : List (List UInt8)) (s : List UInt8) : journal (L ++ [s]) = journal L ++ record s L.length := by
  show journalFrom 0 (L ++ [s]) = _
  rw [jfrom_app, Nat.zero_add]
  simp [journalFrom, journal]

theorem room_dev {L : List (List UInt8)} {n N : Nat} (h : ∀ s ∈ L, isLine s = true) (hl : L.length < 60) (hg : good L ≤ n) (hn : n = 32 * N) (h1 : 1 ≤ N) (h2 : N ≤ 250) : roomJ (dev L n) = (((min (n - good L - 9) 120 : Nat) : Int), 0) := by
  rw [roomJ, if_pos (checkD_dev h (by omega) hg hn h1 h2), read_dev h (by omega), dev_len hg, room, if_neg (by omega)]

theorem append_dev {L : List (List UInt8)} {s : List UInt8} {n N : Nat} (h : ∀ s ∈ L, isLine s = true) (hl : L.length < 60) (hs : isLine s = true) (hg : good L + (s.length + 9) ≤ n) (hn : n = 32 * N) (h1 : 1 ≤ N) (h2 : N ≤ 250) :
    appendJ (dev L n) s = (toD (dev L n) (journal (L ++ [s])), 0) := by
  have hg' : good L ≤ n := by omega
  have hsl := jline_len hs
  rw [appendJ, if_neg (by rw [checkD_dev h (by omega) hg' hn h1 h2]; simp), if_neg (by simp [hs]), read_dev h (by omega), dev_len hg', show room n L.length (good L) = min (n - good L - 9) 120 by rw [room, if_neg (by omega)], if_neg (by omega), journal_snoc]
  have : (dev L n).take (good L) = journal L := by rw [dev, ← journal_len, List.take_left]
  rw [this]

theorem append_full {L : List (List UInt8)} {s : List UInt8} {n N : Nat} (h : ∀ s ∈ L, isLine s = true) (hl : L.length < 60) (hs : isLine s = true) (hg : good L ≤ n) (hf : n < good L + (s.length + 9)) (hn : n = 32 * N) (h1 : 1 ≤ N) (h2 : N ≤ 250) :
    appendJ (dev L n) s = ([], 8) := by
  have hsl := jline_len hs
  rw [appendJ, if_neg (by rw [checkD_dev h (by omega) hg hn h1 h2]; simp), if_neg (by simp [hs]), read_dev h (by omega), dev_len hg, show room n L.length (good L) = min (n - good L - 9) 120 by rw [room, if_neg (by omega)], if_pos (by omega)]

theorem blocksFrom_fits (b t : List UInt8) (N : Nat) (ht : t.length = 32 * N) : ∀ (m k : Nat), k + m ≤ N → ∀ w ∈ blocksFrom k m b t, ∃ i : Nat, w = ((i : Int), chunk i t) ∧ k ≤ i ∧ i < k + m
  | 0, k, _, w, h => by simp [blocksFrom] at h
  | m + 1, k, hk, w, h => by
    simp only [blocksFrom] at h
    split at h
    · obtain ⟨i, e, h1, h2⟩ := blocksFrom_fits b t N ht m (k + 1) (by omega) w h
      exact ⟨i, e, by omega, by omega⟩
    · rcases List.mem_cons.1 h with rfl | h
      · exact ⟨k, rfl, by omega, by omega⟩
      · obtain ⟨i, e, h1, h2⟩ := blocksFrom_fits b t N ht m (k + 1) (by omega) w h
        exact ⟨i, e, by omega, by omega⟩
theorem padlen (s : List UInt8) (n : Nat) (h : s.length ≤ n) : (pad s n).length = n := by simp [pad]; omega
theorem toD_mem {b s : List UInt8} (hf : formed b = true) (hs : s.length ≤ b.length) : ∀ w ∈ toD b s, ∃ i : Nat, w = ((i : Int), chunk i (pad s b.length)) ∧ i < b.length / 32 := by
  intro w hw
  have hd := formed_div hf
  obtain ⟨i, e, _, h2⟩ := blocksFrom_fits b (pad s b.length) (b.length / 32) (by rw [padlen _ _ hs]; omega) (b.length / 32) 0 (by omega) w hw
  exact ⟨i, e, by omega⟩
theorem toD_fits {b s : List UInt8} (hf : formed b = true) (hs : s.length ≤ b.length) : ∀ w ∈ toD b s, fits b.length w = true := by
  intro w hw
  obtain ⟨i, rfl, hi⟩ := toD_mem hf hs w hw
  have hd := formed_div hf
  have hc : (chunk i (pad s b.length)).length = 32 := chunk_length (by rw [padlen _ _ hs]; omega)
  have h1 : (0 : Int) ≤ (i : Int) := by omega
  have h2 : (i : Int) < ((b.length / 32 : Nat) : Int) := by exact_mod_cast hi
  simp only [fits, hc, decide_eq_true h1, decide_eq_true h2]
  rfl
theorem toD_check {b s : List UInt8} (hf : formed b = true) (hs : s.length ≤ b.length) : checkW b (toD b s) = 0 := by
  rw [checkW, if_neg (by simp [hf]), if_pos (List.all_eq_true.2 (toD_fits hf hs))]

theorem apply_dev {b : List UInt8} {K : List (List UInt8)} (hf : formed b = true) (hK : good K ≤ b.length) : applyJ b (toD b (journal K)) = (dev K b.length, 0) := by
  rw [applyJ, if_neg (by rw [toD_check hf (by rw [journal_len]; exact hK)]; simp), apply_toD hf (by rw [journal_len]; exact hK), dev, journal_len]
end Go.Proofs.Ytphalijdanmkeaa
