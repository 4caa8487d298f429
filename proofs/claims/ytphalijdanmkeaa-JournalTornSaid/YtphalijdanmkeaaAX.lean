/- The law of torn writes: the contracts that it wants. -/
import Derived.Test.YtphalijdanmkeaaAV
import Derived.Test.YtphalijdanmkeaaAR
import Derived.Deep.Cut
import Derived.Deep.CutRange
namespace Go.Proofs.Ytphalijdanmkeaa
open Go.RowKit Go.Shelf J

theorem Try.und34t : Try.prog.underlying 34 = some (.slice (Try.prog.elem 34)) := by kernel_rfl
theorem Try.size34t (W : World) : (sizeOf (Try.prog.elem 34)).run Try.prog W = .ok 1 W := by kernel_rfl

theorem c_filled (a : Option Addr) (c : Nat) (L : List (List UInt8)) (w : World) (hL : ∀ s ∈ L, isLine s = true) (hlen : L.length ≤ 60) (hg : good L ≤ 2560) (h : Row 1 w a L.length c (L.map strV)) :
    Calls Try.prog 45 #[.slice a L.length c, .int .u8 79] w fun e w' => ∃ a' c', e = .returned (.tuple #[.slice a' 2560 c', .bool true]) ∧ Row 1 w' a' 2560 c' ((dev L 2560).map byteV) ∧ Below w.heap.size w w' := by
  have := filled_any a c L 79 w hL hlen h
  simp only [show 32 * (1 + (79 : UInt8).toNat % 80) = 2560 from rfl, if_pos hg] at this
  exact this.mono fun e w' ⟨⟨a', c', e1, r⟩, hb⟩ => ⟨a', c', e1, r, hb⟩
theorem c_append {K : List (List UInt8)} {s : List UInt8} (h : ∀ s ∈ K, isLine s = true) (hl : K.length < 60) (hs : isLine s = true) (hg : good K + (s.length + 9) ≤ 2560) (a : Option Addr) (c : Nat) (W : World) (r : Row 1 W a 2560 c ((dev K 2560).map byteV)) :
    Calls Try.prog 36 #[.slice a 2560 c, strV s] W (RetWrE W (toD (dev K 2560) (journal (K ++ [s]))) 0) := by
  have := Append_any a 2560 c (dev K 2560) s W (by omega) (by have := jline_len hs; omega) r
  rwa [append_dev (N := 80) h hl hs hg rfl (by omega) (by omega)] at this
theorem c_apply {b V : List UInt8} {E : List (Int × List UInt8)} (hE : E.length ≤ 140737488355328) (h : applyJ b E = (V, 0)) (hV : V.length = 2560) (a a2 : Option Addr) (c c2 : Nat) (W : World) (r : Row 1 W a 2560 c (b.map byteV)) (hw : Writes W a2 c2 E) :
    Calls Try.prog 41 #[.slice a 2560 c, .slice a2 E.length c2] W fun e w' => ∃ a' c', e = .returned (.tuple #[.slice a' 2560 c', .int .i64 0]) ∧ Row 1 w' a' 2560 c' (V.map byteV) ∧ Below W.heap.size W w' := by
  refine (Apply_any a a2 2560 c c2 b E W (by omega) hE r hw).mono ?_
  rintro e w' ⟨a', c', he, ho, hb⟩
  rw [h] at he ho
  simp only [hV] at he ho
  exact ⟨a', c', he, row_of_own ho, hb⟩
theorem c_recover {b : List UInt8} {R : List (List UInt8)} (hb : b.length = 2560) (hr : read b = R) (a : Option Addr) (c : Nat) (W : World) (r : Row 1 W a 2560 c (b.map byteV)) :
    Calls Try.prog 22 #[.slice a 2560 c] W fun e w' => ∃ a' c', e = .returned (.tuple #[.slice a' R.length c', .int .i64 (good R : Int), .int .i64 0]) ∧ Row 1 w' a' R.length c' (R.map strV) ∧ Below W.heap.size W w' := by
  have hj : recJ b = (R, (good R : Int), 0) := by rw [recJ, if_pos (by omega), hr]
  refine (Recover_any a 2560 c b W (by omega) r).mono ?_
  rintro e w' ⟨a', c', he, hr, hb⟩
  rw [hj] at he hr
  exact ⟨a', c', he, hr, hb⟩
theorem c_after {b U kb : List UInt8} {E : List (Int × List UInt8)} {tn : UInt8} (hE : E.length ≤ 1000000) (hEb : ∀ x ∈ E, x.2.length ≤ 140737488355328) (h : crashJ b E (keepL kb E.length) ((tn.toNat : Int) % 33) = (U, 0)) (hU : U.length = 2560) (ak a a2 : Option Addr) (nk ck c c2 : Nat) (W : World)
    (hk : Row 1 W ak nk ck (kb.map byteV)) (r : Row 1 W a 2560 c (b.map byteV)) (hw : Writes W a2 c2 E) :
    Calls Try.prog 47 #[.agg #[.slice ak nk ck, .int .u8 (tn.toNat : Int)], .slice a 2560 c, .slice a2 E.length c2] W fun e w' => ∃ a' c', e = .returned (.tuple #[.slice a' 2560 c', .int .i64 0]) ∧ Row 1 w' a' 2560 c' (U.map byteV) ∧ Below W.heap.size W w' := by
  refine (after_any ak a a2 nk ck 2560 c c2 kb b tn E W hk (by omega) hE hEb r hw).mono ?_
  rintro e w' ⟨a', c', he, hr, hb⟩
  rw [h] at he hr
  simp only [hU] at he hr
  exact ⟨a', c', he, hr, hb⟩

/-- a device after writes of which some are kept -/
theorem crash_between {b : List UInt8} {K : List (List UInt8)} (hf : formed b = true) (hK : good K ≤ b.length) {keep : List Bool} (hk : keep.length = (toD b (journal K)).length) {torn : Int} (h0 : 0 ≤ torn) (h1 : torn ≤ 32) :
    ∃ T, crashJ b (toD b (journal K)) keep torn = (T, 0) ∧ T.length = b.length ∧ btw b (dev K b.length) T := by
  have hjl : (journal K).length ≤ b.length := by rw [journal_len]; exact hK
  have hc := toD_check hf hjl
  have hb := btw_torn (B := b) (C := dev K b.length) (dev_len hK) (l := kept (toD b (journal K)) keep) (writesOf_sub (toD_writes hf hK) fun w hw => kept_sub _ keep w hw) (many := torn.toNat) (by omega)
  exact ⟨_, by rw [crashJ, if_neg (by simp [hc]), if_pos ⟨hk, h0, h1⟩], hb.1, hb⟩
theorem toD_bytes' {b : List UInt8} {K : List (List UInt8)} (hf : formed b = true) (hK : good K ≤ b.length) : ∀ w ∈ toD b (journal K), w.2.length ≤ 140737488355328 := by
  intro w hw
  obtain ⟨n, _, _, h3⟩ := fits_ok (toD_fits hf (by rw [journal_len]; exact hK) w hw)
  omega
theorem crash_none {b kb : List UInt8} (hf : formed b = true) {torn : Int} (h0 : 0 ≤ torn) (h1 : torn ≤ 32) : crashJ b [] (keepL kb 0) torn = (b, 0) := by
  have hc : checkW b [] = 0 := by simp [checkW, hf]
  rw [crashJ, if_neg (by simp [hc]), if_pos ⟨rfl, h0, h1⟩]
  rfl
theorem apply_none {b : List UInt8} (hf : formed b = true) : applyJ b [] = (b, 0) := by
  have hc : checkW b [] = 0 := by simp [checkW, hf]
  rw [applyJ, if_neg (by simp [hc])]
  rfl

/-- what becomes of a device while it is cleaned -/
theorem clean_all {T kb : List UInt8} (hf : formed T = true) {torn : Int} (h0 : 0 ≤ torn) (h1 : torn ≤ 32) :
    ∃ (E : List (Int × List UInt8)) (U : List UInt8), (cleanJ T).1 = E ∧ E.length ≤ T.length ∧ (∀ x ∈ E, x.2.length ≤ 140737488355328) ∧ crashJ T E (keepL kb E.length) torn = (U, 0) ∧ U.length = T.length ∧ read U = read T ∧ applyJ T E = (dev (read T) T.length, 0) ∧
      (((cleanJ T).2 = 6 ∧ E.length = 0 ∧ checkD T = 0) ∨ ((cleanJ T).2 = 0 ∧ checkD T = 9)) := by
  by_cases hc : clean T = true
  · refine ⟨[], T, by rw [cleanJ, if_neg (by simp [hf]), if_pos hc], by simp, (fun x hx => by cases hx), crash_none hf h0 h1, rfl, rfl, ?_, .inl ⟨by rw [cleanJ, if_neg (by simp [hf]), if_pos hc], rfl, by simp [checkD, hf, hc]⟩⟩
    rw [← clean_is_dev hc]
    exact apply_none hf
  · have hg : good (read T) ≤ T.length := recover_good 60 0 T
    have he : cleanJ T = (toD T (journal (read T)), 0) := by rw [cleanJ, if_neg (by simp [hf]), if_neg hc, read_take]
    obtain ⟨U, h2, h3, h4⟩ := crash_between (K := read T) hf hg (keep := keepL kb (toD T (journal (read T))).length) (keepL_length _ _) h0 h1
    exact ⟨_, U, by rw [he], toD_len _ _, toD_bytes' hf hg, h2, h3, read_clean h4, apply_dev hf hg, .inr ⟨by rw [he], by simp [checkD, hf, hc]⟩⟩
end Go.Proofs.Ytphalijdanmkeaa
