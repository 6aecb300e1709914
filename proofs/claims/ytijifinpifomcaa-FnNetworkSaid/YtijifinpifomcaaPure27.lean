/- More plain facts. No condition. -/
import Derived.Test.YtijifinpifomcaaPure26
import Derived.Test.YtijifinpifomcaaMachW
set_option linter.unusedVariables false
set_option linter.unusedSimpArgs false
set_option linter.unusedVariables false
set_option linter.unusedSimpArgs false
namespace Go.Abs
open Go
noncomputable section
def eByt (x : Int) : List T := [.v (.int .u8 x)]
theorem own_eByt (l : List Int) : ownEs (l.map eByt) = true := E.ownEs_map (fun _ => rfl) l
theorem bor_eByt (l : List Int) : borEs (l.map eByt) = l.map eByt := E.borEs_map (fun _ => rfl) l
theorem scal_eByt (l : List Int) : scalEs (l.map eByt) = true := E.scalEs_map (fun _ => rfl) l
theorem one_eByt (l : List Int) : oneEs (l.map eByt) = true := E.oneEs_map (fun _ => rfl) l
theorem sz_eByt (l : List Int) : szEs (l.map eByt) = true := szEs_map (fun _ => rfl) l
theorem eByt_eq (x : Int) : eByt x = [.v (.int .u8 x)] := rfl
structure Cur where
  i : Nat
  h : Int
instance : Inhabited Cur := ⟨⟨0, 0⟩⟩
def nxtH (h : Int) : Int := IntKind.i64.wrap (IntKind.i64.wrap (h * 6364136223846793005) + 1442695040888963407)
def rawX (h : Int) : Int := andI .i64 (xorI .i64 (shrI .i64 (nxtH h) 33) (shrI .i64 (nxtH h) 45)) 255
def curB (b : List Int) (c : Cur) : Int × Cur :=
  if c.i < b.length then (andI .i64 (IntKind.i64.wrap (rawX c.h + IntKind.i64.wrap (at' b c.i))) 255, ⟨c.i + 1, nxtH c.h⟩) else (rawX c.h, ⟨c.i, nxtH c.h⟩)
theorem cur_eta (c : Cur) : (⟨c.i, c.h⟩ : Cur) = c := rfl
theorem curB_yi {b : List Int} {c : Cur} (hb : b.length ≤ 1048576) (h : (c.i : Int) < (b.length : Int)) : (((curB b c).2.i : Nat) : Int) = IntKind.i64.wrap ((c.i : Int) + 1) := by
  rw [wrap64_id (n := (c.i : Int) + 1) (by omega) (by omega), curB, if_pos (by omega)]
  rfl
theorem curB_ni {b : List Int} {c : Cur} (h : (b.length : Int) ≤ (c.i : Int)) : (((curB b c).2.i : Nat) : Int) = (c.i : Int) := by
  rw [curB, if_neg (by omega)]
theorem curB_b (b : List Int) (c : Cur) : 0 ≤ (curB b c).1 ∧ (curB b c).1 ≤ 255 := by
  unfold curB; split
  · exact andI_255 _
  · exact andI_255 _
theorem curB_i (b : List Int) (c : Cur) (h : c.i ≤ b.length) : (curB b c).2.i ≤ b.length := by
  unfold curB; split
  · dsimp only; omega
  · exact h
def below (b : List Int) (c : Cur) (n : Int) : Int × Cur := if n ≤ 0 then (0, c) else ((curB b c).1.tmod n, (curB b c).2)
theorem below_b (b : List Int) (c : Cur) {n : Int} (h : 0 < n) : 0 ≤ (below b c n).1 ∧ (below b c n).1 < n := by
  have q := curB_b b c
  unfold below
  rw [if_neg (by omega)]
  dsimp only
  rw [Int.tmod_eq_emod_of_nonneg q.1]
  exact ⟨Int.emod_nonneg _ (by omega), Int.emod_lt_of_pos _ h⟩
theorem below_i (b : List Int) (c : Cur) (n : Int) (h : c.i ≤ b.length) : (below b c n).2.i ≤ b.length := by
  unfold below; split
  · exact h
  · exact curB_i b c h
theorem below_0 {b : List Int} {c : Cur} {n : Int} (h : n ≤ 0) : below b c n = (0, c) := by rw [below, if_pos h]
theorem below_1 {b : List Int} {c : Cur} {n : Int} (h : 0 < n) : below b c n = ((curB b c).1.tmod n, (curB b c).2) := by rw [below, if_neg (by omega)]
def pickI (b : List Int) (c : Cur) (l : List Int) : Int × Cur := (at' l (below b c l.length).1.toNat, (below b c l.length).2)
def sidesN (b : List Int) (c : Cur) : Nat → List Int × Cur
  | 0 => ([], c)
  | n + 1 => ((sidesN b c n).1 ++ [(pickI b (sidesN b c n).2 [0, 0, 0, 1, 2]).1], (pickI b (sidesN b c n).2 [0, 0, 0, 1, 2]).2)
theorem sidesN_len (b : List Int) (c : Cur) : ∀ n, (sidesN b c n).1.length = n
  | 0 => rfl
  | n + 1 => by simp [sidesN, sidesN_len b c n]
theorem sidesN_i (b : List Int) (c : Cur) (h : c.i ≤ b.length) : ∀ n, (sidesN b c n).2.i ≤ b.length
  | 0 => h
  | n + 1 => by simp only [sidesN, pickI]; exact below_i _ _ _ (sidesN_i b c h n)
def sidesAny (b : List Int) (c : Cur) : List Int × Cur :=
  let l := sidesN b c 5
  let k := below b l.2 12
  if k.1 = 0 then (l.1.drop 1, k.2) else if k.1 = 1 then (l.1.set 1 (pickI b k.2 [-1, 3, 4]).1, (pickI b k.2 [-1, 3, 4]).2) else (l.1, k.2)
theorem sa_0 {b : List Int} {c : Cur} (h : (below b (sidesN b c 5).2 12).1 = 0) : sidesAny b c = ((sidesN b c 5).1.drop 1, (below b (sidesN b c 5).2 12).2) := by simp [sidesAny, h]
theorem sa_1 {b : List Int} {c : Cur} (h : (below b (sidesN b c 5).2 12).1 = 1) : sidesAny b c = ((sidesN b c 5).1.set 1 (pickI b (below b (sidesN b c 5).2 12).2 [-1, 3, 4]).1, (pickI b (below b (sidesN b c 5).2 12).2 [-1, 3, 4]).2) := by simp [sidesAny, h]
theorem sa_2 {b : List Int} {c : Cur} (h : ¬ (below b (sidesN b c 5).2 12).1 = 0) (h1 : ¬ (below b (sidesN b c 5).2 12).1 = 1) : sidesAny b c = ((sidesN b c 5).1, (below b (sidesN b c 5).2 12).2) := by simp [sidesAny, h, h1]
theorem sidesN5 (b : List Int) (c : Cur) : (sidesN b c 5).1.length = 5 := sidesN_len b c 5
theorem sidesAny_len (b : List Int) (c : Cur) : (sidesAny b c).1.length ≤ 5 := by
  have q := sidesN_len b c 5
  unfold sidesAny
  dsimp only
  split
  · simp [q]
  · split
    · simp [q]
    · simp [q]
theorem sidesAny_i (b : List Int) (c : Cur) (h : c.i ≤ b.length) : (sidesAny b c).2.i ≤ b.length := by
  have q := below_i b (sidesN b c 5).2 12 (sidesN_i b c h 5)
  unfold sidesAny
  dsimp only
  split
  · exact q
  · split
    · exact below_i _ _ _ q
    · exact q
def seedN (b : List Int) : Nat → Int
  | 0 => IntKind.i64.wrap (10101 + b.length)
  | i + 1 => andI .i64 (IntKind.i64.wrap (IntKind.i64.wrap (IntKind.i64.wrap (seedN b i * 131) + IntKind.i64.wrap (at' b i)) + 7)) 1073741823
def cur0 (b : List Int) : Cur := ⟨0, seedN b (min b.length 4000)⟩
theorem cur0_i (b : List Int) : (cur0 b).i ≤ b.length := Nat.zero_le _
theorem cur0_h {b : List Int} {i : Nat} (h1 : i ≤ b.length) (h2 : i ≤ 4000) (h3 : (b.length : Int) ≤ i ∨ (4000 : Int) ≤ i) : seedN b i = (cur0 b).h := by
  have e : i = min b.length 4000 := by omega
  rw [e]; rfl
def drawMove (b : List Int) : List Int × Int × Int :=
  let s := sidesAny b (cur0 b)
  let k := below b s.2 7
  (s.1, k.1 - 1, (pickI b k.2 [0, 1, 3, 4, -1]).1)
theorem drawMove_len (b : List Int) : (drawMove b).1.length ≤ 5 := sidesAny_len b (cur0 b)
end
end Go.Abs
