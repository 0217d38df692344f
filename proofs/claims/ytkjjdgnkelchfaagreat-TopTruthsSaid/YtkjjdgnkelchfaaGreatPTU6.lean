import Derived.Test.YtkjjdgnkelchfaaGreatPTU5
set_option linter.unusedSimpArgs false
set_option linter.unusedVariables false
set_option maxRecDepth 100000
set_option maxHeartbeats 16000000
namespace Go.Proofs.YtkjjdgnkelchfaaGreat
open Go Go.RowKit
structure D32 where
  l : List UInt8
  h : l.length = 32
theorem D32.ext {a b : D32} (h : a.l = b.l) : a = b := by cases a; cases b; cases h; rfl
theorem D32.inj {a b : D32} (h : a = b) : a.l = b.l := by rw [h]
instance : DecidableEq D32 := fun a b => if h : a.l = b.l then isTrue (D32.ext h) else isFalse (fun e => h (D32.inj e))
def D32.z : D32 := ⟨zb 32, by simp [zb]⟩
def D32.c (x : D32) : List Value := bvs x.l
theorem D32.cl (x : D32) : x.c.length = 32 := by unfold D32.c; rw [xae, x.h]
theorem D32.c1 (x : D32) : ∀ u ∈ x.c, u.oneCell' = true := xbk _
structure Sv where
  A : Option Addr
  n : Nat
  c : Nat
def Sv.v (x : Sv) : Value := .slice x.A x.n x.c
def Sv.nil : Sv := ⟨none, 0, 0⟩
theorem xa5 {α : Type} (a b c m : List α) (h : m.length = b.length) : splice (a ++ (b ++ c)) a.length m = a ++ (m ++ c) := by
  unfold splice; rw [List.take_left' rfl, h]; congr 2; have e : a ++ (b ++ c) = (a ++ b) ++ c := by simp
  rw [e, List.drop_left' (by simp)]
theorem xja {α : Type} (a b c : List α) (n : Nat) (h : b.length = n) : ((a ++ (b ++ c)).drop a.length).take n = b := by
  rw [List.drop_left' rfl, List.take_left' h]
theorem get_one {α : Type} (a c : List α) (v : α) : (a ++ ([v] ++ c))[a.length]? = some v := by simp
theorem set_one {α : Type} (a c : List α) (v u : α) : (a ++ ([v] ++ c)).set a.length u = a ++ ([u] ++ c) := by simp
theorem gk {α : Type} {a r : List α} {n k : Nat} {o : Option α} (h : a.length = k) (hk : k ≤ n) (z : r[n - k]? = o) : (a ++ r)[n]? = o := by rw [List.getElem?_append_right (by omega), h]; exact z
theorem gd {α : Type} {a r o : List α} {n k m : Nat} (h : a.length = k) (hk : k ≤ n) (z : (r.drop (n - k)).take m = o) : ((a ++ r).drop n).take m = o := by
  rw [List.drop_append, List.drop_eq_nil_of_le (by omega), h]; exact z
theorem gd0 {α : Type} {b r : List α} {n m : Nat} (h : b.length = m) (hn : n = 0) : ((b ++ r).drop n).take m = b := by subst hn; rw [List.drop_zero, List.take_left' h]
theorem sk {α : Type} {a r q : List α} {n k : Nat} {v : α} (h : a.length = k) (hk : k ≤ n) (z : r.set (n - k) v = q) : (a ++ r).set n v = a ++ q := by rw [List.set_append_right _ _ (by omega), h, z]
theorem sk0 {α : Type} {r : List α} {n : Nat} {u v : α} (hn : n = 0) : ([u] ++ r).set n v = [v] ++ r := by subst hn; rfl
theorem gk0 {α : Type} {r : List α} {n : Nat} {v : α} (hn : n = 0) : ([v] ++ r)[n]? = some v := by subst hn; rfl
theorem sp {α : Type} {a r q u : List α} {n k : Nat} (h : a.length = k) (hk : k ≤ n) (z : splice r (n - k) u = q) : splice (a ++ r) n u = a ++ q := by
  subst z; unfold splice; rw [List.take_append, List.take_of_length_le (by omega), h, List.drop_append, List.drop_eq_nil_of_le (by omega), h, List.nil_append, List.append_assoc, show n + u.length - k = n - k + u.length by omega]
theorem sp0 {α : Type} {b r u : List α} {n : Nat} (h : u.length = b.length) (hn : n = 0) : splice (b ++ r) n u = u ++ r := by
  subst hn; have := xa5 [] b r u h; simpa using this
theorem Zg {q : Prop} (z : q := by
  repeat (refine gk (by first | exact (rfl : _ = 1) | exact D32.cl _) (by decide) ?_)
  exact gk0 rfl) : q := z
theorem Zd {q : Prop} (z : q := by
  repeat (refine gd (by first | exact (rfl : _ = 1) | exact D32.cl _) (by decide) ?_)
  exact gd0 (D32.cl _) rfl) : q := z
theorem Zs {q : Prop} (z : q := by
  repeat (refine sk (by first | exact (rfl : _ = 1) | exact D32.cl _) (by decide) ?_)
  exact sk0 rfl) : q := z
theorem Zp {q : Prop} (z : q := by
  repeat (refine sp (by first | exact (rfl : _ = 1) | exact D32.cl _) (by decide) ?_)
  exact sp0 (by simp only [D32.cl]) rfl) : q := z
structure Nod where
  kind : Nat
  key : D32
  val : D32
  left : D32
  right : D32
def Nod.cells (x : Nod) : List Value := [Value.int .u8 (x.kind : Int)] ++ (x.key.c ++ (x.val.c ++ (x.left.c ++ (x.right.c ++ []))))
theorem Nod.len (x : Nod) : x.cells.length = 129 := by
  simp only [Nod.cells, qp, D32.cl, qr, qs]
theorem Nod.one (x : Nod) : ∀ u ∈ x.cells, u.oneCell' = true := by
  intro u hu; simp only [Nod.cells, List.mem_append, List.mem_cons, List.not_mem_nil, or_false] at hu; rcases hu with rfl | hu | hu | hu | hu
  · rfl
  · exact D32.c1 _ u hu
  · exact D32.c1 _ u hu
  · exact D32.c1 _ u hu
  · exact D32.c1 _ u hu
def Nod.z : Nod := ⟨0, D32.z, D32.z, D32.z, D32.z⟩
theorem Nod.g_kind (x : Nod) : x.cells[0]? = some (Value.int .u8 (x.kind : Int)) := by unfold Nod.cells; exact Zg
theorem Nod.s_kind (x : Nod) (y : Nat) : x.cells.set 0 (Value.int .u8 (y : Int)) = ({x with kind := y} : Nod).cells := by unfold Nod.cells; exact Zs
theorem Nod.g_key (x : Nod) : (x.cells.drop 1).take 32 = x.key.c := by unfold Nod.cells; exact Zd
theorem Nod.s_key (x : Nod) (y : D32) : splice x.cells 1 y.c = ({x with key := y} : Nod).cells := by unfold Nod.cells; exact Zp
theorem Nod.g_val (x : Nod) : (x.cells.drop 33).take 32 = x.val.c := by unfold Nod.cells; exact Zd
theorem Nod.s_val (x : Nod) (y : D32) : splice x.cells 33 y.c = ({x with val := y} : Nod).cells := by unfold Nod.cells; exact Zp
theorem Nod.g_left (x : Nod) : (x.cells.drop 65).take 32 = x.left.c := by unfold Nod.cells; exact Zd
theorem Nod.s_left (x : Nod) (y : D32) : splice x.cells 65 y.c = ({x with left := y} : Nod).cells := by unfold Nod.cells; exact Zp
theorem Nod.g_right (x : Nod) : (x.cells.drop 97).take 32 = x.right.c := by unfold Nod.cells; exact Zd
theorem Nod.s_right (x : Nod) (y : D32) : splice x.cells 97 y.c = ({x with right := y} : Nod).cells := by unfold Nod.cells; exact Zp
structure Prv where
  sides : Sv
  kind : Nat
  key : D32
  val : D32
  left : D32
  right : D32
def Prv.cells (x : Prv) : List Value := [x.sides.v] ++ ([Value.int .u8 (x.kind : Int)] ++ (x.key.c ++ (x.val.c ++ (x.left.c ++ (x.right.c ++ [])))))
theorem Prv.len (x : Prv) : x.cells.length = 130 := by
  simp only [Prv.cells, qp, D32.cl, qr, qs]
theorem Prv.one (x : Prv) : ∀ u ∈ x.cells, u.oneCell' = true := by
  intro u hu; simp only [Prv.cells, List.mem_append, List.mem_cons, List.not_mem_nil, or_false] at hu; rcases hu with rfl | rfl | hu | hu | hu | hu
  · rfl
  · rfl
  · exact D32.c1 _ u hu
  · exact D32.c1 _ u hu
  · exact D32.c1 _ u hu
  · exact D32.c1 _ u hu
def Prv.z : Prv := ⟨Sv.nil, 0, D32.z, D32.z, D32.z, D32.z⟩
theorem Prv.g_sides (x : Prv) : x.cells[0]? = some (x.sides.v) := by unfold Prv.cells; exact Zg
theorem Prv.s_sides (x : Prv) (y : Sv) : x.cells.set 0 (y.v) = ({x with sides := y} : Prv).cells := by unfold Prv.cells; exact Zs
theorem Prv.g_kind (x : Prv) : x.cells[1]? = some (Value.int .u8 (x.kind : Int)) := by unfold Prv.cells; exact Zg
theorem Prv.g_key (x : Prv) : (x.cells.drop 2).take 32 = x.key.c := by unfold Prv.cells; exact Zd
theorem Prv.g_val (x : Prv) : (x.cells.drop 34).take 32 = x.val.c := by unfold Prv.cells; exact Zd
structure Brv where
  kind : Nat
  key : D32
  val : D32
  dig : D32
def Brv.cells (x : Brv) : List Value := [Value.int .u8 (x.kind : Int)] ++ (x.key.c ++ (x.val.c ++ (x.dig.c ++ [])))
theorem Brv.len (x : Brv) : x.cells.length = 97 := by
  simp only [Brv.cells, qp, D32.cl, qr, qs]
theorem Brv.one (x : Brv) : ∀ u ∈ x.cells, u.oneCell' = true := by
  intro u hu; simp only [Brv.cells, List.mem_append, List.mem_cons, List.not_mem_nil, or_false] at hu; rcases hu with rfl | hu | hu | hu
  · rfl
  · exact D32.c1 _ u hu
  · exact D32.c1 _ u hu
  · exact D32.c1 _ u hu
def Brv.z : Brv := ⟨0, D32.z, D32.z, D32.z⟩
theorem Brv.g_kind (x : Brv) : x.cells[0]? = some (Value.int .u8 (x.kind : Int)) := by unfold Brv.cells; exact Zg
theorem Brv.s_kind (x : Brv) (y : Nat) : x.cells.set 0 (Value.int .u8 (y : Int)) = ({x with kind := y} : Brv).cells := by unfold Brv.cells; exact Zs
theorem Brv.g_key (x : Brv) : (x.cells.drop 1).take 32 = x.key.c := by unfold Brv.cells; exact Zd
theorem Brv.s_key (x : Brv) (y : D32) : splice x.cells 1 y.c = ({x with key := y} : Brv).cells := by unfold Brv.cells; exact Zp
theorem Brv.g_val (x : Brv) : (x.cells.drop 33).take 32 = x.val.c := by unfold Brv.cells; exact Zd
theorem Brv.s_val (x : Brv) (y : D32) : splice x.cells 33 y.c = ({x with val := y} : Brv).cells := by unfold Brv.cells; exact Zp
theorem Brv.g_dig (x : Brv) : (x.cells.drop 65).take 32 = x.dig.c := by unfold Brv.cells; exact Zd
theorem Brv.s_dig (x : Brv) (y : D32) : splice x.cells 65 y.c = ({x with dig := y} : Brv).cells := by unfold Brv.cells; exact Zp
structure Sai where
  there : Bool
  val : D32
def Sai.cells (x : Sai) : List Value := [Value.bool x.there] ++ (x.val.c ++ [])
theorem Sai.len (x : Sai) : x.cells.length = 33 := by
  simp only [Sai.cells, qp, D32.cl, qr, qs]
theorem Sai.one (x : Sai) : ∀ u ∈ x.cells, u.oneCell' = true := by
  intro u hu; simp only [Sai.cells, List.mem_append, List.mem_cons, List.not_mem_nil, or_false] at hu; rcases hu with rfl | hu
  · rfl
  · exact D32.c1 _ u hu
def Sai.z : Sai := ⟨false, D32.z⟩
theorem Sai.g_there (x : Sai) : x.cells[0]? = some (Value.bool x.there) := by unfold Sai.cells; exact Zg
theorem Sai.s_there (x : Sai) (y : Bool) : x.cells.set 0 (Value.bool y) = ({x with there := y} : Sai).cells := by unfold Sai.cells; exact Zs
theorem Sai.g_val (x : Sai) : (x.cells.drop 1).take 32 = x.val.c := by unfold Sai.cells; exact Zd
theorem Sai.s_val (x : Sai) (y : D32) : splice x.cells 1 y.c = ({x with val := y} : Sai).cells := by unfold Sai.cells; exact Zp
structure Clm where
  there : Bool
  val : Sv
  byt : Sv
def Clm.cells (x : Clm) : List Value := [Value.bool x.there] ++ ([x.val.v] ++ ([x.byt.v] ++ []))
theorem Clm.len (x : Clm) : x.cells.length = 3 := by
  simp only [Clm.cells, qp, D32.cl, qr, qs]
theorem Clm.one (x : Clm) : ∀ u ∈ x.cells, u.oneCell' = true := by
  intro u hu; simp only [Clm.cells, List.mem_append, List.mem_cons, List.not_mem_nil, or_false] at hu; rcases hu with rfl | rfl | rfl
  · rfl
  · rfl
  · rfl
def Clm.z : Clm := ⟨false, Sv.nil, Sv.nil⟩
theorem Clm.g_there (x : Clm) : x.cells[0]? = some (Value.bool x.there) := by unfold Clm.cells; exact Zg
theorem Clm.s_there (x : Clm) (y : Bool) : x.cells.set 0 (Value.bool y) = ({x with there := y} : Clm).cells := by unfold Clm.cells; exact Zs
theorem Clm.g_val (x : Clm) : x.cells[1]? = some (x.val.v) := by unfold Clm.cells; exact Zg
theorem Clm.s_val (x : Clm) (y : Sv) : x.cells.set 1 (y.v) = ({x with val := y} : Clm).cells := by unfold Clm.cells; exact Zs
theorem Clm.g_byt (x : Clm) : x.cells[2]? = some (x.byt.v) := by unfold Clm.cells; exact Zg
theorem Clm.s_byt (x : Clm) (y : Sv) : x.cells.set 2 (y.v) = ({x with byt := y} : Clm).cells := by unfold Clm.cells; exact Zs
structure Cla where
  fst : Sv
  snd : Sv
def Cla.cells (x : Cla) : List Value := [x.fst.v] ++ ([x.snd.v] ++ [])
theorem Cla.len (x : Cla) : x.cells.length = 2 := by
  simp only [Cla.cells, qp, D32.cl, qr, qs]
theorem Cla.one (x : Cla) : ∀ u ∈ x.cells, u.oneCell' = true := by
  intro u hu; simp only [Cla.cells, List.mem_append, List.mem_cons, List.not_mem_nil, or_false] at hu; rcases hu with rfl | rfl
  · rfl
  · rfl
def Cla.z : Cla := ⟨Sv.nil, Sv.nil⟩
theorem Cla.s_fst (x : Cla) (y : Sv) : x.cells.set 0 (y.v) = ({x with fst := y} : Cla).cells := by unfold Cla.cells; exact Zs
theorem Cla.s_snd (x : Cla) (y : Sv) : x.cells.set 1 (y.v) = ({x with snd := y} : Cla).cells := by unfold Cla.cells; exact Zs
structure Spv where
  parts : Sv
  vals : Sv
def Spv.cells (x : Spv) : List Value := [x.parts.v] ++ ([x.vals.v] ++ [])
theorem Spv.len (x : Spv) : x.cells.length = 2 := by
  simp only [Spv.cells, qp, D32.cl, qr, qs]
theorem Spv.one (x : Spv) : ∀ u ∈ x.cells, u.oneCell' = true := by
  intro u hu; simp only [Spv.cells, List.mem_append, List.mem_cons, List.not_mem_nil, or_false] at hu; rcases hu with rfl | rfl
  · rfl
  · rfl
def Spv.z : Spv := ⟨Sv.nil, Sv.nil⟩
theorem Spv.g_parts (x : Spv) : x.cells[0]? = some (x.parts.v) := by unfold Spv.cells; exact Zg
theorem Spv.s_parts (x : Spv) (y : Sv) : x.cells.set 0 (y.v) = ({x with parts := y} : Spv).cells := by unfold Spv.cells; exact Zs
theorem Spv.g_vals (x : Spv) : x.cells[1]? = some (x.vals.v) := by unfold Spv.cells; exact Zg
theorem Spv.s_vals (x : Spv) (y : Sv) : x.cells.set 1 (y.v) = ({x with vals := y} : Spv).cells := by unfold Spv.cells; exact Zs
structure Say where
  fst : Bool
  snd : Bool
  same : Bool
def Say.cells (x : Say) : List Value := [Value.bool x.fst] ++ ([Value.bool x.snd] ++ ([Value.bool x.same] ++ []))
theorem Say.len (x : Say) : x.cells.length = 3 := by
  simp only [Say.cells, qp, D32.cl, qr, qs]
theorem Say.one (x : Say) : ∀ u ∈ x.cells, u.oneCell' = true := by
  intro u hu; simp only [Say.cells, List.mem_append, List.mem_cons, List.not_mem_nil, or_false] at hu; rcases hu with rfl | rfl | rfl
  · rfl
  · rfl
  · rfl
def Say.z : Say := ⟨false, false, false⟩
theorem Say.g_fst (x : Say) : x.cells[0]? = some (Value.bool x.fst) := by unfold Say.cells; exact Zg
theorem Say.s_fst (x : Say) (y : Bool) : x.cells.set 0 (Value.bool y) = ({x with fst := y} : Say).cells := by unfold Say.cells; exact Zs
theorem Say.g_snd (x : Say) : x.cells[1]? = some (Value.bool x.snd) := by unfold Say.cells; exact Zg
theorem Say.s_snd (x : Say) (y : Bool) : x.cells.set 1 (Value.bool y) = ({x with snd := y} : Say).cells := by unfold Say.cells; exact Zs
theorem Say.g_same (x : Say) : x.cells[2]? = some (Value.bool x.same) := by unfold Say.cells; exact Zg
theorem Say.s_same (x : Say) (y : Bool) : x.cells.set 2 (Value.bool y) = ({x with same := y} : Say).cells := by unfold Say.cells; exact Zs
structure Par where
  key : D32
  val : Sv
def Par.cells (x : Par) : List Value := x.key.c ++ ([x.val.v] ++ [])
theorem Par.len (x : Par) : x.cells.length = 33 := by
  simp only [Par.cells, qp, D32.cl, qr, qs]
theorem Par.one (x : Par) : ∀ u ∈ x.cells, u.oneCell' = true := by
  intro u hu; simp only [Par.cells, List.mem_append, List.mem_cons, List.not_mem_nil, or_false] at hu; rcases hu with hu | rfl
  · exact D32.c1 _ u hu
  · rfl
def Par.z : Par := ⟨D32.z, Sv.nil⟩
theorem Par.g_key (x : Par) : (x.cells.drop 0).take 32 = x.key.c := by unfold Par.cells; exact Zd
theorem Par.s_key (x : Par) (y : D32) : splice x.cells 0 y.c = ({x with key := y} : Par).cells := by unfold Par.cells; exact Zp
theorem Par.g_val (x : Par) : x.cells[32]? = some (x.val.v) := by unfold Par.cells; exact Zg
theorem Par.s_val (x : Par) (y : Sv) : x.cells.set 32 (y.v) = ({x with val := y} : Par).cells := by unfold Par.cells; exact Zs
structure Str where
  fr : D32
  til : D32
def Str.cells (x : Str) : List Value := x.fr.c ++ (x.til.c ++ [])
theorem Str.len (x : Str) : x.cells.length = 64 := by
  simp only [Str.cells, qp, D32.cl, qr, qs]
def Str.z : Str := ⟨D32.z, D32.z⟩
theorem Str.g_fr (x : Str) : (x.cells.drop 0).take 32 = x.fr.c := by unfold Str.cells; exact Zd
theorem Str.s_fr (x : Str) (y : D32) : splice x.cells 0 y.c = ({x with fr := y} : Str).cells := by unfold Str.cells; exact Zp
theorem Str.g_til (x : Str) : (x.cells.drop 32).take 32 = x.til.c := by unfold Str.cells; exact Zd
theorem Str.s_til (x : Str) (y : D32) : splice x.cells 32 y.c = ({x with til := y} : Str).cells := by unfold Str.cells; exact Zp
structure Nd where
  dig : D32
  kind : Nat
  depth : Int
  key : D32
  vs : Sv
  hash : D32
  left : Int
  right : Int
  size : Int
  held : Int
def Nd.cells (x : Nd) : List Value := x.dig.c ++ ([Value.int .u8 (x.kind : Int)] ++ ([Value.int .i64 x.depth] ++ (x.key.c ++ ([x.vs.v] ++ (x.hash.c ++ ([Value.int .i64 x.left] ++ ([Value.int .i64 x.right] ++ ([Value.int .i64 x.size] ++ ([Value.int .i64 x.held] ++ [])))))))))
theorem Nd.len (x : Nd) : x.cells.length = 103 := by
  simp only [Nd.cells, qp, D32.cl, qr, qs]
theorem Nd.one (x : Nd) : ∀ u ∈ x.cells, u.oneCell' = true := by
  intro u hu; simp only [Nd.cells, List.mem_append, List.mem_cons, List.not_mem_nil, or_false] at hu; rcases hu with hu | rfl | rfl | hu | rfl | hu | rfl | rfl | rfl | rfl
  · exact D32.c1 _ u hu
  · rfl
  · rfl
  · exact D32.c1 _ u hu
  · rfl
  · exact D32.c1 _ u hu
  · rfl
  · rfl
  · rfl
  · rfl
def Nd.z : Nd := ⟨D32.z, 0, 0, D32.z, Sv.nil, D32.z, 0, 0, 0, 0⟩
theorem Nd.g_dig (x : Nd) : (x.cells.drop 0).take 32 = x.dig.c := by unfold Nd.cells; exact Zd
theorem Nd.s_dig (x : Nd) (y : D32) : splice x.cells 0 y.c = ({x with dig := y} : Nd).cells := by unfold Nd.cells; exact Zp
theorem Nd.g_kind (x : Nd) : x.cells[32]? = some (Value.int .u8 (x.kind : Int)) := by unfold Nd.cells; exact Zg
theorem Nd.s_kind (x : Nd) (y : Nat) : x.cells.set 32 (Value.int .u8 (y : Int)) = ({x with kind := y} : Nd).cells := by unfold Nd.cells; exact Zs
theorem Nd.g_depth (x : Nd) : x.cells[33]? = some (Value.int .i64 x.depth) := by unfold Nd.cells; exact Zg
theorem Nd.s_depth (x : Nd) (y : Int) : x.cells.set 33 (Value.int .i64 y) = ({x with depth := y} : Nd).cells := by unfold Nd.cells; exact Zs
theorem Nd.g_key (x : Nd) : (x.cells.drop 34).take 32 = x.key.c := by unfold Nd.cells; exact Zd
theorem Nd.s_key (x : Nd) (y : D32) : splice x.cells 34 y.c = ({x with key := y} : Nd).cells := by unfold Nd.cells; exact Zp
theorem Nd.g_vs (x : Nd) : x.cells[66]? = some (x.vs.v) := by unfold Nd.cells; exact Zg
theorem Nd.s_vs (x : Nd) (y : Sv) : x.cells.set 66 (y.v) = ({x with vs := y} : Nd).cells := by unfold Nd.cells; exact Zs
theorem Nd.s_hash (x : Nd) (y : D32) : splice x.cells 67 y.c = ({x with hash := y} : Nd).cells := by unfold Nd.cells; exact Zp
theorem Nd.g_left (x : Nd) : x.cells[99]? = some (Value.int .i64 x.left) := by unfold Nd.cells; exact Zg
theorem Nd.s_left (x : Nd) (y : Int) : x.cells.set 99 (Value.int .i64 y) = ({x with left := y} : Nd).cells := by unfold Nd.cells; exact Zs
theorem Nd.g_right (x : Nd) : x.cells[100]? = some (Value.int .i64 x.right) := by unfold Nd.cells; exact Zg
theorem Nd.s_right (x : Nd) (y : Int) : x.cells.set 100 (Value.int .i64 y) = ({x with right := y} : Nd).cells := by unfold Nd.cells; exact Zs
theorem Nd.g_size (x : Nd) : x.cells[101]? = some (Value.int .i64 x.size) := by unfold Nd.cells; exact Zg
theorem Nd.s_size (x : Nd) (y : Int) : x.cells.set 101 (Value.int .i64 y) = ({x with size := y} : Nd).cells := by unfold Nd.cells; exact Zs
theorem Nd.g_held (x : Nd) : x.cells[102]? = some (Value.int .i64 x.held) := by unfold Nd.cells; exact Zg
theorem Nd.s_held (x : Nd) (y : Int) : x.cells.set 102 (Value.int .i64 y) = ({x with held := y} : Nd).cells := by unfold Nd.cells; exact Zs
structure Slo where
  dig : D32
  kind : Nat
  depth : Int
  key : D32
  vs : Sv
  hash : D32
  left : Int
  right : Int
  size : Int
  held : Int
  count : Int
def Slo.cells (x : Slo) : List Value := x.dig.c ++ ([Value.int .u8 (x.kind : Int)] ++ ([Value.int .i64 x.depth] ++ (x.key.c ++ ([x.vs.v] ++ (x.hash.c ++ ([Value.int .i64 x.left] ++ ([Value.int .i64 x.right] ++ ([Value.int .i64 x.size] ++ ([Value.int .i64 x.held] ++ ([Value.int .i64 x.count] ++ []))))))))))
theorem Slo.len (x : Slo) : x.cells.length = 104 := by
  simp only [Slo.cells, qp, D32.cl, qr, qs]
theorem Slo.one (x : Slo) : ∀ u ∈ x.cells, u.oneCell' = true := by
  intro u hu; simp only [Slo.cells, List.mem_append, List.mem_cons, List.not_mem_nil, or_false] at hu; rcases hu with hu | rfl | rfl | hu | rfl | hu | rfl | rfl | rfl | rfl | rfl
  · exact D32.c1 _ u hu
  · rfl
  · rfl
  · exact D32.c1 _ u hu
  · rfl
  · exact D32.c1 _ u hu
  · rfl
  · rfl
  · rfl
  · rfl
  · rfl
def Slo.z : Slo := ⟨D32.z, 0, 0, D32.z, Sv.nil, D32.z, 0, 0, 0, 0, 0⟩
theorem Slo.g_count (x : Slo) : x.cells[103]? = some (Value.int .i64 x.count) := by unfold Slo.cells; exact Zg
theorem Slo.s_count (x : Slo) (y : Int) : x.cells.set 103 (Value.int .i64 y) = ({x with count := y} : Slo).cells := by unfold Slo.cells; exact Zs
structure Plc where
  above : Sv
  fin : Int
  same : Bool
  other : Bool
def Plc.cells (x : Plc) : List Value := [x.above.v] ++ ([Value.int .i64 x.fin] ++ ([Value.bool x.same] ++ ([Value.bool x.other] ++ [])))
theorem Plc.len (x : Plc) : x.cells.length = 4 := by
  simp only [Plc.cells, qp, D32.cl, qr, qs]
theorem Plc.one (x : Plc) : ∀ u ∈ x.cells, u.oneCell' = true := by
  intro u hu; simp only [Plc.cells, List.mem_append, List.mem_cons, List.not_mem_nil, or_false] at hu; rcases hu with rfl | rfl | rfl | rfl
  · rfl
  · rfl
  · rfl
  · rfl
def Plc.z : Plc := ⟨Sv.nil, 0, false, false⟩
theorem Plc.g_above (x : Plc) : x.cells[0]? = some (x.above.v) := by unfold Plc.cells; exact Zg
theorem Plc.s_above (x : Plc) (y : Sv) : x.cells.set 0 (y.v) = ({x with above := y} : Plc).cells := by unfold Plc.cells; exact Zs
theorem Plc.g_fin (x : Plc) : x.cells[1]? = some (Value.int .i64 x.fin) := by unfold Plc.cells; exact Zg
theorem Plc.s_fin (x : Plc) (y : Int) : x.cells.set 1 (Value.int .i64 y) = ({x with fin := y} : Plc).cells := by unfold Plc.cells; exact Zs
theorem Plc.g_same (x : Plc) : x.cells[2]? = some (Value.bool x.same) := by unfold Plc.cells; exact Zg
theorem Plc.s_same (x : Plc) (y : Bool) : x.cells.set 2 (Value.bool y) = ({x with same := y} : Plc).cells := by unfold Plc.cells; exact Zs
theorem Plc.g_other (x : Plc) : x.cells[3]? = some (Value.bool x.other) := by unfold Plc.cells; exact Zg
theorem Plc.s_other (x : Plc) (y : Bool) : x.cells.set 3 (Value.bool y) = ({x with other := y} : Plc).cells := by unfold Plc.cells; exact Zs
def Prv.nod (x : Prv) : Nod := ⟨x.kind, x.key, x.val, x.left, x.right⟩
theorem Prv.g_nod (x : Prv) : (x.cells.drop 1).take 129 = x.nod.cells := by
  have e : x.cells = [x.sides.v] ++ (x.nod.cells ++ []) := by simp only [Prv.cells, Nod.cells, Prv.nod, qo, qn, qu, qm]
  have h := xja [x.sides.v] x.nod.cells [] 129 (Nod.len _); rwa [List.length_singleton, ← e] at h
def Prv.setN (x : Prv) (n : Nod) : Prv := ⟨x.sides, n.kind, n.key, n.val, n.left, n.right⟩
theorem Prv.s_nod (x : Prv) (n : Nod) : splice x.cells 1 n.cells = (x.setN n).cells := by
  have e : x.cells = [x.sides.v] ++ (x.nod.cells ++ []) := by simp only [Prv.cells, Nod.cells, Prv.nod, qo, qn, qu, qm]
  have h := xa5 [x.sides.v] x.nod.cells [] n.cells (by rw [Nod.len, Nod.len]); rw [List.length_singleton, ← e] at h; rw [h]; simp only [Prv.cells, Nod.cells, Prv.setN, qo, qn, qu, qm]
def Nd.slo (x : Nd) (c : Int) : Slo := ⟨x.dig, x.kind, x.depth, x.key, x.vs, x.hash, x.left, x.right, x.size, x.held, c⟩
theorem Nd.slo_cells (x : Nd) (c : Int) : (x.slo c).cells = x.cells ++ [.int .i64 c] := by simp only [Slo.cells, Nd.cells, Nd.slo, qo, qn, qu, qm]
theorem xqm : FA Tryz.prog 32 0 0 := ⟨_, _, Tryz.underlying32, rfl, rfl, by kernel_rfl⟩
theorem fa32_1 : FA Tryz.prog 32 1 1 := ⟨_, _, Tryz.underlying32, rfl, rfl, by kernel_rfl⟩
theorem fa32_2 : FA Tryz.prog 32 2 33 := ⟨_, _, Tryz.underlying32, rfl, rfl, by kernel_rfl⟩
theorem fa32_3 : FA Tryz.prog 32 3 65 := ⟨_, _, Tryz.underlying32, rfl, rfl, by kernel_rfl⟩
theorem fa32_4 : FA Tryz.prog 32 4 97 := ⟨_, _, Tryz.underlying32, rfl, rfl, by kernel_rfl⟩
theorem xh8 : FA Tryz.prog 34 0 0 := ⟨_, _, Tryz.underlying34, rfl, rfl, by kernel_rfl⟩
theorem xjx : FA Tryz.prog 34 1 1 := ⟨_, _, Tryz.underlying34, rfl, rfl, by kernel_rfl⟩
theorem xqn : FA Tryz.prog 39 0 0 := ⟨_, _, Tryz.underlying39, rfl, rfl, by kernel_rfl⟩
theorem xmn : FA Tryz.prog 39 1 1 := ⟨_, _, Tryz.underlying39, rfl, rfl, by kernel_rfl⟩
theorem fa39_2 : FA Tryz.prog 39 2 2 := ⟨_, _, Tryz.underlying39, rfl, rfl, by kernel_rfl⟩
theorem xmo : FA Tryz.prog 44 0 0 := ⟨_, _, Tryz.underlying44, rfl, rfl, by kernel_rfl⟩
theorem fa52_0 : FA Tryz.prog 52 0 0 := ⟨_, _, Tryz.underlying52, rfl, rfl, by kernel_rfl⟩
theorem xmp : FA Tryz.prog 52 1 1 := ⟨_, _, Tryz.underlying52, rfl, rfl, by kernel_rfl⟩
theorem fa61_0 : FA Tryz.prog 61 0 0 := ⟨_, _, Tryz.underlying61, rfl, rfl, by kernel_rfl⟩
theorem fa61_1 : FA Tryz.prog 61 1 32 := ⟨_, _, Tryz.underlying61, rfl, rfl, by kernel_rfl⟩
theorem xrw : FA Tryz.prog 114 0 0 := ⟨_, _, Tryz.underlying114, rfl, rfl, by kernel_rfl⟩
theorem xmq : FA Tryz.prog 124 0 0 := ⟨_, _, Tryz.underlying124, rfl, rfl, by kernel_rfl⟩
theorem xmr : FA Tryz.prog 124 1 1 := ⟨_, _, Tryz.underlying124, rfl, rfl, by kernel_rfl⟩
theorem xrx : FA Tryz.prog 124 2 33 := ⟨_, _, Tryz.underlying124, rfl, rfl, by kernel_rfl⟩
theorem xry : FA Tryz.prog 124 3 65 := ⟨_, _, Tryz.underlying124, rfl, rfl, by kernel_rfl⟩
theorem fa136_0 : FA Tryz.prog 136 0 0 := ⟨_, _, Tryz.underlying136, rfl, rfl, by kernel_rfl⟩
theorem xrz : FA Tryz.prog 136 1 32 := ⟨_, _, Tryz.underlying136, rfl, rfl, by kernel_rfl⟩
theorem fa138_0 : FA Tryz.prog 138 0 0 := ⟨_, _, Tryz.underlying138, rfl, rfl, by kernel_rfl⟩
theorem xms : FA Tryz.prog 138 1 64 := ⟨_, _, Tryz.underlying138, rfl, rfl, by kernel_rfl⟩
theorem fa138_2 : FA Tryz.prog 138 2 65 := ⟨_, _, Tryz.underlying138, rfl, rfl, by kernel_rfl⟩
theorem xr0 : FA Tryz.prog 138 3 97 := ⟨_, _, Tryz.underlying138, rfl, rfl, by kernel_rfl⟩
theorem fa138_4 : FA Tryz.prog 138 4 98 := ⟨_, _, Tryz.underlying138, rfl, rfl, by kernel_rfl⟩
theorem xmt : FA Tryz.prog 138 5 99 := ⟨_, _, Tryz.underlying138, rfl, rfl, by kernel_rfl⟩
theorem xhh : FA Tryz.prog 138 6 131 := ⟨_, _, Tryz.underlying138, rfl, rfl, by kernel_rfl⟩
theorem xjb : FA Tryz.prog 166 1 1 := ⟨_, _, Tryz.underlying166, rfl, rfl, by kernel_rfl⟩
theorem xmu : FA Tryz.prog 166 2 2 := ⟨_, _, Tryz.underlying166, rfl, rfl, by kernel_rfl⟩
theorem xr1 : FA Tryz.prog 199 0 0 := ⟨_, _, Tryz.underlying199, rfl, rfl, by kernel_rfl⟩
theorem fa199_1 : FA Tryz.prog 199 1 1 := ⟨_, _, Tryz.underlying199, rfl, rfl, by kernel_rfl⟩
theorem xmv : FA Tryz.prog 199 2 33 := ⟨_, _, Tryz.underlying199, rfl, rfl, by kernel_rfl⟩
theorem xr2 : FA Tryz.prog 208 0 0 := ⟨_, _, Tryz.underlying208, rfl, rfl, by kernel_rfl⟩
theorem xmw : FA Tryz.prog 208 1 1 := ⟨_, _, Tryz.underlying208, rfl, rfl, by kernel_rfl⟩
theorem fa228_0 : FA Tryz.prog 228 0 0 := ⟨_, _, Tryz.underlying228, rfl, rfl, by kernel_rfl⟩
theorem fa230_0 : FA Tryz.prog 230 0 0 := ⟨_, _, Tryz.underlying230, rfl, rfl, by kernel_rfl⟩
theorem fa230_1 : FA Tryz.prog 230 1 32 := ⟨_, _, Tryz.underlying230, rfl, rfl, by kernel_rfl⟩
theorem xmx : FA Tryz.prog 230 2 33 := ⟨_, _, Tryz.underlying230, rfl, rfl, by kernel_rfl⟩
theorem xmy : FA Tryz.prog 230 3 34 := ⟨_, _, Tryz.underlying230, rfl, rfl, by kernel_rfl⟩
theorem fa230_4 : FA Tryz.prog 230 4 66 := ⟨_, _, Tryz.underlying230, rfl, rfl, by kernel_rfl⟩
theorem fa230_6 : FA Tryz.prog 230 6 99 := ⟨_, _, Tryz.underlying230, rfl, rfl, by kernel_rfl⟩
theorem fa230_7 : FA Tryz.prog 230 7 100 := ⟨_, _, Tryz.underlying230, rfl, rfl, by kernel_rfl⟩
theorem xmz : FA Tryz.prog 230 8 101 := ⟨_, _, Tryz.underlying230, rfl, rfl, by kernel_rfl⟩
theorem xr3 : FA Tryz.prog 230 9 102 := ⟨_, _, Tryz.underlying230, rfl, rfl, by kernel_rfl⟩
theorem fa246_0 : FA Tryz.prog 246 0 0 := ⟨_, _, Tryz.underlying246, rfl, rfl, by kernel_rfl⟩
theorem xm0 : FA Tryz.prog 246 1 1 := ⟨_, _, Tryz.underlying246, rfl, rfl, by kernel_rfl⟩
theorem xjc : FA Tryz.prog 246 2 2 := ⟨_, _, Tryz.underlying246, rfl, rfl, by kernel_rfl⟩
theorem xjd : FA Tryz.prog 246 3 3 := ⟨_, _, Tryz.underlying246, rfl, rfl, by kernel_rfl⟩
theorem xm1 : FA Tryz.prog 256 0 0 := ⟨_, _, Tryz.underlying256, rfl, rfl, by kernel_rfl⟩
theorem xfe : FA Tryz.prog 318 0 0 := ⟨_, _, Tryz.underlying318, rfl, rfl, by kernel_rfl⟩
theorem fa318_1 : FA Tryz.prog 318 1 1 := ⟨_, _, Tryz.underlying318, rfl, rfl, by kernel_rfl⟩
theorem xje : FA Tryz.prog 318 2 2 := ⟨_, _, Tryz.underlying318, rfl, rfl, by kernel_rfl⟩
theorem xm2 : FA Tryz.prog 318 3 3 := ⟨_, _, Tryz.underlying318, rfl, rfl, by kernel_rfl⟩
theorem xr4 : FA Tryz.prog 340 0 0 := ⟨_, _, Tryz.underlying340, rfl, rfl, by kernel_rfl⟩
theorem xr5 : FA Tryz.prog 340 1 103 := ⟨_, _, Tryz.underlying340, rfl, rfl, by kernel_rfl⟩
theorem fa353_0 : FA Tryz.prog 353 0 0 := ⟨_, _, Tryz.underlying353, rfl, rfl, by kernel_rfl⟩
theorem xr6 : FA Tryz.prog 353 1 1 := ⟨_, _, Tryz.underlying353, rfl, rfl, by kernel_rfl⟩
theorem sc3 : W1 Tryz.prog 3 := ⟨⟨_, Tryz.underlying3, rfl⟩, by kernel_rfl⟩
theorem sc4 : W1 Tryz.prog 4 := ⟨⟨_, Tryz.underlying4, rfl⟩, by kernel_rfl⟩
theorem sc5 : W1 Tryz.prog 5 := ⟨⟨_, Tryz.underlying5, rfl⟩, by kernel_rfl⟩
theorem ag23 : AT Tryz.prog 23 32 := ⟨⟨_, Tryz.underlying23, rfl⟩, by kernel_rfl⟩
theorem ag24 : AT Tryz.prog 24 32 := ⟨⟨_, Tryz.underlying24, rfl⟩, by kernel_rfl⟩
theorem sc25 : W1 Tryz.prog 25 := ⟨⟨_, Tryz.underlying25, rfl⟩, by kernel_rfl⟩
theorem sc26 : W1 Tryz.prog 26 := ⟨⟨_, Tryz.underlying26, rfl⟩, by kernel_rfl⟩
theorem sc29 : W1 Tryz.prog 29 := ⟨⟨_, Tryz.underlying29, rfl⟩, by kernel_rfl⟩
theorem sc30 : W1 Tryz.prog 30 := ⟨⟨_, Tryz.underlying30, rfl⟩, by kernel_rfl⟩
theorem ag32 : AT Tryz.prog 32 129 := ⟨⟨_, Tryz.underlying32, rfl⟩, by kernel_rfl⟩
theorem ag34 : AT Tryz.prog 34 130 := ⟨⟨_, Tryz.underlying34, rfl⟩, by kernel_rfl⟩
theorem ag39 : AT Tryz.prog 39 3 := ⟨⟨_, Tryz.underlying39, rfl⟩, by kernel_rfl⟩
theorem sc42 : W1 Tryz.prog 42 := ⟨⟨_, Tryz.underlying42, rfl⟩, by kernel_rfl⟩
theorem ag44 : AT Tryz.prog 44 1 := ⟨⟨_, Tryz.underlying44, rfl⟩, by kernel_rfl⟩
theorem sc50 : W1 Tryz.prog 50 := ⟨⟨_, Tryz.underlying50, rfl⟩, by kernel_rfl⟩
theorem ag52 : AT Tryz.prog 52 2 := ⟨⟨_, Tryz.underlying52, rfl⟩, by kernel_rfl⟩
theorem sc71 : W1 Tryz.prog 71 := ⟨⟨_, Tryz.underlying71, rfl⟩, by kernel_rfl⟩
theorem xoh : AT Tryz.prog 114 33 := ⟨⟨_, Tryz.underlying114, rfl⟩, by kernel_rfl⟩
theorem xoi : AT Tryz.prog 124 97 := ⟨⟨_, Tryz.underlying124, rfl⟩, by kernel_rfl⟩
theorem sc128 : W1 Tryz.prog 128 := ⟨⟨_, Tryz.underlying128, rfl⟩, by kernel_rfl⟩
theorem ag136 : AT Tryz.prog 136 64 := ⟨⟨_, Tryz.underlying136, rfl⟩, by kernel_rfl⟩
theorem ag141 : AT Tryz.prog 141 2 := ⟨⟨_, Tryz.underlying141, rfl⟩, by kernel_rfl⟩
theorem sc164 : W1 Tryz.prog 164 := ⟨⟨_, Tryz.underlying164, rfl⟩, by kernel_rfl⟩
theorem xjy : W1 Tryz.prog 192 := ⟨⟨_, Tryz.underlying192, rfl⟩, by kernel_rfl⟩
theorem ag208 : AT Tryz.prog 208 3 := ⟨⟨_, Tryz.underlying208, rfl⟩, by kernel_rfl⟩
theorem xe3 : AT Tryz.prog 230 103 := ⟨⟨_, Tryz.underlying230, rfl⟩, by kernel_rfl⟩
theorem ag246 : AT Tryz.prog 246 4 := ⟨⟨_, Tryz.underlying246, rfl⟩, by kernel_rfl⟩
theorem sc252 : W1 Tryz.prog 252 := ⟨⟨_, Tryz.underlying252, rfl⟩, by kernel_rfl⟩
theorem sc316 : W1 Tryz.prog 316 := ⟨⟨_, Tryz.underlying316, rfl⟩, by kernel_rfl⟩
theorem ag340 : AT Tryz.prog 340 104 := ⟨⟨_, Tryz.underlying340, rfl⟩, by kernel_rfl⟩
theorem sc352 : W1 Tryz.prog 352 := ⟨⟨_, Tryz.underlying352, rfl⟩, by kernel_rfl⟩
theorem ag353 : AT Tryz.prog 353 2 := ⟨⟨_, Tryz.underlying353, rfl⟩, by kernel_rfl⟩
theorem sl25 : ST Tryz.prog 25 5 1 := ⟨Tryz.underlying25, by kernel_rfl⟩
theorem sl26 : ST Tryz.prog 26 24 32 := ⟨Tryz.underlying26, by kernel_rfl⟩
theorem sl28 : ST Tryz.prog 28 39 3 := ⟨Tryz.underlying28, by kernel_rfl⟩
theorem sl29 : ST Tryz.prog 29 23 32 := ⟨Tryz.underlying29, by kernel_rfl⟩
theorem sl42 : ST Tryz.prog 42 124 97 := ⟨Tryz.underlying42, by kernel_rfl⟩
theorem sl50 : ST Tryz.prog 50 25 1 := ⟨Tryz.underlying50, by kernel_rfl⟩
theorem sl55 : ST Tryz.prog 55 61 33 := ⟨Tryz.underlying55, by kernel_rfl⟩
theorem sl71 : ST Tryz.prog 71 3 1 := ⟨Tryz.underlying71, by kernel_rfl⟩
theorem sl118 : ST Tryz.prog 118 30 1 := ⟨Tryz.underlying118, by kernel_rfl⟩
theorem xoj : ST Tryz.prog 128 34 130 := ⟨Tryz.underlying128, by kernel_rfl⟩
theorem xok : ST Tryz.prog 192 3 1 := ⟨Tryz.underlying192, by kernel_rfl⟩
theorem xol : ST Tryz.prog 316 340 104 := ⟨Tryz.underlying316, by kernel_rfl⟩
theorem sl354 : ST Tryz.prog 354 353 2 := ⟨Tryz.underlying354, by kernel_rfl⟩
theorem zr23 : ZA Tryz.prog 23 D32.z.c := ⟨.agg D32.z.c.toArray, by kernel_rfl, rfl⟩
theorem zr24 : ZA Tryz.prog 24 D32.z.c := ⟨.agg D32.z.c.toArray, by kernel_rfl, rfl⟩
theorem zr32 : ZA Tryz.prog 32 Nod.z.cells := ⟨.agg Nod.z.cells.toArray, by kernel_rfl, rfl⟩
theorem zr34 : ZA Tryz.prog 34 Prv.z.cells := ⟨.agg Prv.z.cells.toArray, by kernel_rfl, rfl⟩
theorem zr39 : ZA Tryz.prog 39 Clm.z.cells := ⟨.agg Clm.z.cells.toArray, by kernel_rfl, rfl⟩
theorem zr44 : ZA Tryz.prog 44 [.slice none 0 0] := ⟨.agg #[.slice none 0 0], by kernel_rfl, rfl⟩
theorem zr52 : ZA Tryz.prog 52 Spv.z.cells := ⟨.agg Spv.z.cells.toArray, by kernel_rfl, rfl⟩
theorem xom : ZA Tryz.prog 114 Sai.z.cells := ⟨.agg Sai.z.cells.toArray, by kernel_rfl, rfl⟩
theorem xls : ZA Tryz.prog 124 Brv.z.cells := ⟨.agg Brv.z.cells.toArray, by kernel_rfl, rfl⟩
theorem xlt : ZA Tryz.prog 141 Cla.z.cells := ⟨.agg Cla.z.cells.toArray, by kernel_rfl, rfl⟩
theorem zr192 : ZA Tryz.prog 192 [.slice none 0 0] := ⟨.slice none 0 0, by kernel_rfl, rfl⟩
theorem zr208 : ZA Tryz.prog 208 Say.z.cells := ⟨.agg Say.z.cells.toArray, by kernel_rfl, rfl⟩
theorem xir : ZA Tryz.prog 230 Nd.z.cells := ⟨.agg Nd.z.cells.toArray, by kernel_rfl, rfl⟩
theorem zr246 : ZA Tryz.prog 246 Plc.z.cells := ⟨.agg Plc.z.cells.toArray, by kernel_rfl, rfl⟩
theorem zr353 : ZA Tryz.prog 353 [.int .i64 0, .pointer none] := ⟨.agg #[.int .i64 0, .pointer none], by kernel_rfl, rfl⟩
theorem el3 : ET Tryz.prog 3 (.int .i64 0) 1 8 := ⟨by kernel_rfl, by first | rfl | exact D32.cl _ | exact rfl, by omega⟩
theorem el5 : ET Tryz.prog 5 (.int .u8 0) 1 1 := ⟨by kernel_rfl, by first | rfl | exact D32.cl _ | exact rfl, by omega⟩
theorem el23 : ET Tryz.prog 23 (.agg D32.z.c.toArray) 32 32 := ⟨by kernel_rfl, by first | rfl | exact D32.cl _ | exact rfl, by omega⟩
theorem el24 : ET Tryz.prog 24 (.agg D32.z.c.toArray) 32 32 := ⟨by kernel_rfl, by first | rfl | exact D32.cl _ | exact rfl, by omega⟩
theorem el25 : ET Tryz.prog 25 (.slice none 0 0) 1 24 := ⟨by kernel_rfl, by first | rfl | exact D32.cl _ | exact rfl, by omega⟩
theorem el30 : ET Tryz.prog 30 (.int .u8 0) 1 1 := ⟨by kernel_rfl, by first | rfl | exact D32.cl _ | exact rfl, by omega⟩
theorem el34 : ET Tryz.prog 34 (.agg Prv.z.cells.toArray) 130 160 := ⟨by kernel_rfl, by first | rfl | exact D32.cl _ | exact Prv.len _, by omega⟩
theorem el39 : ET Tryz.prog 39 (.agg Clm.z.cells.toArray) 3 56 := ⟨by kernel_rfl, by first | rfl | exact D32.cl _ | exact Clm.len _, by omega⟩
theorem el61 : ET Tryz.prog 61 (.agg Par.z.cells.toArray) 33 56 := ⟨by kernel_rfl, by first | rfl | exact D32.cl _ | exact Par.len _, by omega⟩
theorem el124 : ET Tryz.prog 124 (.agg Brv.z.cells.toArray) 97 97 := ⟨by kernel_rfl, by first | rfl | exact D32.cl _ | exact Brv.len _, by omega⟩
theorem el340 : ET Tryz.prog 340 (.agg Slo.z.cells.toArray) 104 176 := ⟨by kernel_rfl, by first | rfl | exact D32.cl _ | exact Slo.len _, by omega⟩
structure CF (P : Program) (n : Nat) : Prop where
  f : ∃ fn, P.funcs[n]? = some fn ∧ (fn.name == "runtime.NumGoroutine") = false ∧ fn.body.isNone = false
section
variable {P : Program} {w : World} {o : Oper} {a : Act} {Q : Exit → Act → World → Prop} {K : Act → World → Prop}
theorem xad {n : Nat} (C : CF P n) {xs : List Operand} {ts : Array TypeId} (ho : o.op = .call { callee := .value (.func n), args := xs.toArray, argTypes := ts })
    (args : List Value) (ha : xs.map a.eval = args) (hC : Calls P n args.toArray w fun e w' => ∃ v, e = .returned v ∧ K (a.put o.dst v) w') : o.wp P a w K Q := by
  obtain ⟨fn, h1, h2, h3⟩ := C.f; exact wp_callF h1 h2 h3 ho args.toArray (by rw [List.map_toArray, ha]) hC
theorem xa8 {t e : TypeId} (ht : P.underlying t = some (.slice e)) (x : Operand) (ho : o.op = .call { callee := .builtin .len, args := #[x], argTypes := #[t] }) (A : Option Addr) (n c : Nat) (hx : a.eval x = .slice A n c) :
    (execOp a.eval o).run P w = .ok (.value (.int .i64 (n : Int))) w := by
  unfold execOp
  have e : (Builtin.len_ #[t] o.type #[.slice A n c]).run P w = .ok (.int .i64 (n : Int)) w := by
    simp [Builtin.len_, run_underlying ht]; rfl
  simp only [ho, resolve, invoke, builtin, Sem.run_bind, Sem.run_pure, Result.andThen_ok, List.map_toArray, qk, ql, hx, e]
theorem xjz {ops : Array Oper} {rest : List Oper} (hw : Region.wanted o (yielded ops a.tmps) = true) (h : ∀ K : Act → World → Prop, (∀ a w, wpList P ops Q rest a w → K a w) → o.wp P a w K Q) : wpList P ops Q (o :: rest) a w :=
  wpList_step fun K hK => by rw [if_pos hw]; exact h K hK
theorem xk9 {ops : Array Oper} {rest : List Oper} (hw : Region.wanted o (yielded ops a.tmps) = false) (h : wpList P ops Q rest (a.put o.dst undef) w) : wpList P ops Q (o :: rest) a w := by
  unfold wpList; rw [if_neg (by rw [hw]; decide)]; exact h
theorem xaz {t e : TypeId} {z : Nat} (B : ST P t e z) (x y : Operand) (ho : o.op = .indexAddr t x y) (ad : Addr) (n c i : Nat) (k : IntKind) (hx : a.eval x = .slice (some ad) n c) (hy : a.eval y = .int k (i : Int)) (hi : i < n) :
    (execOp a.eval o).run P w = .ok (.value (.pointer (some (ad.add (i * z))))) w := by
  have he : P.elem t = e := by simp [Program.elem, B.t]
  have hr := run_indexAt_slice (P := P) (w := w) t ad n c k (i : Int) (by rw [he]; exact B.t); rw [he, if_pos (by omega), B.size] at hr; simp only [Result.andThen_ok, Int.toNat_natCast] at hr; unfold execOp; simp only [ho, hx, hy, Sem.run_bind, hr, Result.andThen_ok, Sem.run_pure]
theorem xbe {t e : TypeId} {z : Nat} (B : ST P t e z) (x y : Operand) (ho : o.op = .indexAddr t x y) (G n c i : Nat) (k : IntKind) (hx : a.eval x = .slice (some ⟨G, 0, none⟩) n c) (hy : a.eval y = .int k (i : Int)) (hi : i < n) :
    (execOp a.eval o).run P w = .ok (.value (.pointer (some ⟨G, i * z, none⟩))) w := by
  have := xaz (w := w) B x y ho _ n c i k hx hy hi; rwa [xe1, Nat.zero_add] at this
end
abbrev Loc.P {w0 : World} {D : Nat → Prop} {L : List (Nat × Nat × List Value)} {w : World} (_ : Loc w0 D L w) : World → Prop := Loc w0 D L
theorem cf6 : CF Tryz.prog 6 := ⟨_, Tryz.func6, by kernel_rfl, rfl⟩
theorem cf7 : CF Tryz.prog 7 := ⟨_, Tryz.func7, by kernel_rfl, rfl⟩
theorem cf8 : CF Tryz.prog 8 := ⟨_, Tryz.func8, by kernel_rfl, rfl⟩
theorem cf9 : CF Tryz.prog 9 := ⟨_, Tryz.func9, by kernel_rfl, rfl⟩
theorem cf10 : CF Tryz.prog 10 := ⟨_, Tryz.func10, by kernel_rfl, rfl⟩
theorem cf11 : CF Tryz.prog 11 := ⟨_, Tryz.func11, by kernel_rfl, rfl⟩
theorem cf12 : CF Tryz.prog 12 := ⟨_, Tryz.func12, by kernel_rfl, rfl⟩
theorem cf13 : CF Tryz.prog 13 := ⟨_, Tryz.func13, by kernel_rfl, rfl⟩
theorem cf14 : CF Tryz.prog 14 := ⟨_, Tryz.func14, by kernel_rfl, rfl⟩
theorem cf15 : CF Tryz.prog 15 := ⟨_, Tryz.func15, by kernel_rfl, rfl⟩
theorem cf16 : CF Tryz.prog 16 := ⟨_, Tryz.func16, by kernel_rfl, rfl⟩
theorem cf29 : CF Tryz.prog 29 := ⟨_, Tryz.func29, by kernel_rfl, rfl⟩
theorem cf34 : CF Tryz.prog 34 := ⟨_, Tryz.func34, by kernel_rfl, rfl⟩
theorem cf36 : CF Tryz.prog 36 := ⟨_, Tryz.func36, by kernel_rfl, rfl⟩
theorem cf37 : CF Tryz.prog 37 := ⟨_, Tryz.func37, by kernel_rfl, rfl⟩
theorem cf38 : CF Tryz.prog 38 := ⟨_, Tryz.func38, by kernel_rfl, rfl⟩
theorem cf39 : CF Tryz.prog 39 := ⟨_, Tryz.func39, by kernel_rfl, rfl⟩
theorem cf40 : CF Tryz.prog 40 := ⟨_, Tryz.func40, by kernel_rfl, rfl⟩
theorem cf41 : CF Tryz.prog 41 := ⟨_, Tryz.func41, by kernel_rfl, rfl⟩
theorem cf42 : CF Tryz.prog 42 := ⟨_, Tryz.func42, by kernel_rfl, rfl⟩
theorem cf43 : CF Tryz.prog 43 := ⟨_, Tryz.func43, by kernel_rfl, rfl⟩
theorem cf44 : CF Tryz.prog 44 := ⟨_, Tryz.func44, by kernel_rfl, rfl⟩
theorem cf45 : CF Tryz.prog 45 := ⟨_, Tryz.func45, by kernel_rfl, rfl⟩
theorem cf46 : CF Tryz.prog 46 := ⟨_, Tryz.func46, by kernel_rfl, rfl⟩
theorem cf47 : CF Tryz.prog 47 := ⟨_, Tryz.func47, by kernel_rfl, rfl⟩
theorem cf48 : CF Tryz.prog 48 := ⟨_, Tryz.func48, by kernel_rfl, rfl⟩
theorem cf49 : CF Tryz.prog 49 := ⟨_, Tryz.func49, by kernel_rfl, rfl⟩
theorem cf50 : CF Tryz.prog 50 := ⟨_, Tryz.func50, by kernel_rfl, rfl⟩
theorem cf51 : CF Tryz.prog 51 := ⟨_, Tryz.func51, by kernel_rfl, rfl⟩
theorem cf52 : CF Tryz.prog 52 := ⟨_, Tryz.func52, by kernel_rfl, rfl⟩
theorem cf53 : CF Tryz.prog 53 := ⟨_, Tryz.func53, by kernel_rfl, rfl⟩
theorem cf54 : CF Tryz.prog 54 := ⟨_, Tryz.func54, by kernel_rfl, rfl⟩
theorem cf55 : CF Tryz.prog 55 := ⟨_, Tryz.func55, by kernel_rfl, rfl⟩
theorem cf56 : CF Tryz.prog 56 := ⟨_, Tryz.func56, by kernel_rfl, rfl⟩
theorem cf57 : CF Tryz.prog 57 := ⟨_, Tryz.func57, by kernel_rfl, rfl⟩
theorem cf58 : CF Tryz.prog 58 := ⟨_, Tryz.func58, by kernel_rfl, rfl⟩
theorem cf59 : CF Tryz.prog 59 := ⟨_, Tryz.func59, by kernel_rfl, rfl⟩
theorem cf60 : CF Tryz.prog 60 := ⟨_, Tryz.func60, by kernel_rfl, rfl⟩
theorem cf61 : CF Tryz.prog 61 := ⟨_, Tryz.func61, by kernel_rfl, rfl⟩
theorem cf62 : CF Tryz.prog 62 := ⟨_, Tryz.func62, by kernel_rfl, rfl⟩
theorem cf63 : CF Tryz.prog 63 := ⟨_, Tryz.func63, by kernel_rfl, rfl⟩
theorem cf64 : CF Tryz.prog 64 := ⟨_, Tryz.func64, by kernel_rfl, rfl⟩
theorem cf65 : CF Tryz.prog 65 := ⟨_, Tryz.func65, by kernel_rfl, rfl⟩
theorem cf66 : CF Tryz.prog 66 := ⟨_, Tryz.func66, by kernel_rfl, rfl⟩
theorem cf79 : CF Tryz.prog 79 := ⟨_, Tryz.func79, by kernel_rfl, rfl⟩
theorem cf82 : CF Tryz.prog 82 := ⟨_, Tryz.func82, by kernel_rfl, rfl⟩
theorem cf83 : CF Tryz.prog 83 := ⟨_, Tryz.func83, by kernel_rfl, rfl⟩
theorem cf89 : CF Tryz.prog 89 := ⟨_, Tryz.func89, by kernel_rfl, rfl⟩
theorem cf90 : CF Tryz.prog 90 := ⟨_, Tryz.func90, by kernel_rfl, rfl⟩
theorem cf91 : CF Tryz.prog 91 := ⟨_, Tryz.func91, by kernel_rfl, rfl⟩
theorem cf92 : CF Tryz.prog 92 := ⟨_, Tryz.func92, by kernel_rfl, rfl⟩
theorem cf93 : CF Tryz.prog 93 := ⟨_, Tryz.func93, by kernel_rfl, rfl⟩
theorem cf94 : CF Tryz.prog 94 := ⟨_, Tryz.func94, by kernel_rfl, rfl⟩
theorem cf95 : CF Tryz.prog 95 := ⟨_, Tryz.func95, by kernel_rfl, rfl⟩
theorem cf96 : CF Tryz.prog 96 := ⟨_, Tryz.func96, by kernel_rfl, rfl⟩
theorem cf98 : CF Tryz.prog 98 := ⟨_, Tryz.func98, by kernel_rfl, rfl⟩
theorem cf99 : CF Tryz.prog 99 := ⟨_, Tryz.func99, by kernel_rfl, rfl⟩
theorem cf100 : CF Tryz.prog 100 := ⟨_, Tryz.func100, by kernel_rfl, rfl⟩
theorem cf101 : CF Tryz.prog 101 := ⟨_, Tryz.func101, by kernel_rfl, rfl⟩
theorem cf102 : CF Tryz.prog 102 := ⟨_, Tryz.func102, by kernel_rfl, rfl⟩
theorem cf104 : CF Tryz.prog 104 := ⟨_, Tryz.func104, by kernel_rfl, rfl⟩
theorem cf105 : CF Tryz.prog 105 := ⟨_, Tryz.func105, by kernel_rfl, rfl⟩
theorem cf106 : CF Tryz.prog 106 := ⟨_, Tryz.func106, by kernel_rfl, rfl⟩
theorem cf108 : CF Tryz.prog 108 := ⟨_, Tryz.func108, by kernel_rfl, rfl⟩
theorem cf109 : CF Tryz.prog 109 := ⟨_, Tryz.func109, by kernel_rfl, rfl⟩
theorem cf110 : CF Tryz.prog 110 := ⟨_, Tryz.func110, by kernel_rfl, rfl⟩
theorem cf112 : CF Tryz.prog 112 := ⟨_, Tryz.func112, by kernel_rfl, rfl⟩
theorem cf113 : CF Tryz.prog 113 := ⟨_, Tryz.func113, by kernel_rfl, rfl⟩
theorem cf114 : CF Tryz.prog 114 := ⟨_, Tryz.func114, by kernel_rfl, rfl⟩
theorem cf115 : CF Tryz.prog 115 := ⟨_, Tryz.func115, by kernel_rfl, rfl⟩
theorem cf116 : CF Tryz.prog 116 := ⟨_, Tryz.func116, by kernel_rfl, rfl⟩
theorem cf117 : CF Tryz.prog 117 := ⟨_, Tryz.func117, by kernel_rfl, rfl⟩
theorem cf129 : CF Tryz.prog 129 := ⟨_, Tryz.func129, by kernel_rfl, rfl⟩
theorem cf130 : CF Tryz.prog 130 := ⟨_, Tryz.func130, by kernel_rfl, rfl⟩
theorem cf132 : CF Tryz.prog 132 := ⟨_, Tryz.func132, by kernel_rfl, rfl⟩
theorem cf133 : CF Tryz.prog 133 := ⟨_, Tryz.func133, by kernel_rfl, rfl⟩
theorem cf136 : CF Tryz.prog 136 := ⟨_, Tryz.func136, by kernel_rfl, rfl⟩
theorem cf138 : CF Tryz.prog 138 := ⟨_, Tryz.func138, by kernel_rfl, rfl⟩
theorem cf139 : CF Tryz.prog 139 := ⟨_, Tryz.func139, by kernel_rfl, rfl⟩
theorem cf142 : CF Tryz.prog 142 := ⟨_, Tryz.func142, by kernel_rfl, rfl⟩
theorem cf143 : CF Tryz.prog 143 := ⟨_, Tryz.func143, by kernel_rfl, rfl⟩
theorem cf144 : CF Tryz.prog 144 := ⟨_, Tryz.func144, by kernel_rfl, rfl⟩
theorem cf145 : CF Tryz.prog 145 := ⟨_, Tryz.func145, by kernel_rfl, rfl⟩
theorem cf146 : CF Tryz.prog 146 := ⟨_, Tryz.func146, by kernel_rfl, rfl⟩
theorem cf147 : CF Tryz.prog 147 := ⟨_, Tryz.func147, by kernel_rfl, rfl⟩
theorem cf148 : CF Tryz.prog 148 := ⟨_, Tryz.func148, by kernel_rfl, rfl⟩
theorem cf149 : CF Tryz.prog 149 := ⟨_, Tryz.func149, by kernel_rfl, rfl⟩
theorem cf150 : CF Tryz.prog 150 := ⟨_, Tryz.func150, by kernel_rfl, rfl⟩
theorem cf151 : CF Tryz.prog 151 := ⟨_, Tryz.func151, by kernel_rfl, rfl⟩
theorem cf152 : CF Tryz.prog 152 := ⟨_, Tryz.func152, by kernel_rfl, rfl⟩
theorem cf153 : CF Tryz.prog 153 := ⟨_, Tryz.func153, by kernel_rfl, rfl⟩
theorem cf154 : CF Tryz.prog 154 := ⟨_, Tryz.func154, by kernel_rfl, rfl⟩
theorem cf155 : CF Tryz.prog 155 := ⟨_, Tryz.func155, by kernel_rfl, rfl⟩
theorem cf156 : CF Tryz.prog 156 := ⟨_, Tryz.func156, by kernel_rfl, rfl⟩
theorem cf160 : CF Tryz.prog 160 := ⟨_, Tryz.func160, by kernel_rfl, rfl⟩
theorem cf161 : CF Tryz.prog 161 := ⟨_, Tryz.func161, by kernel_rfl, rfl⟩
theorem cf162 : CF Tryz.prog 162 := ⟨_, Tryz.func162, by kernel_rfl, rfl⟩
theorem cf163 : CF Tryz.prog 163 := ⟨_, Tryz.func163, by kernel_rfl, rfl⟩
theorem cf165 : CF Tryz.prog 165 := ⟨_, Tryz.func165, by kernel_rfl, rfl⟩
theorem cf166 : CF Tryz.prog 166 := ⟨_, Tryz.func166, by kernel_rfl, rfl⟩
theorem cf167 : CF Tryz.prog 167 := ⟨_, Tryz.func167, by kernel_rfl, rfl⟩
theorem cf168 : CF Tryz.prog 168 := ⟨_, Tryz.func168, by kernel_rfl, rfl⟩
theorem cf169 : CF Tryz.prog 169 := ⟨_, Tryz.func169, by kernel_rfl, rfl⟩
theorem cf170 : CF Tryz.prog 170 := ⟨_, Tryz.func170, by kernel_rfl, rfl⟩
theorem cf171 : CF Tryz.prog 171 := ⟨_, Tryz.func171, by kernel_rfl, rfl⟩
theorem cf172 : CF Tryz.prog 172 := ⟨_, Tryz.func172, by kernel_rfl, rfl⟩
theorem cf173 : CF Tryz.prog 173 := ⟨_, Tryz.func173, by kernel_rfl, rfl⟩
theorem cf174 : CF Tryz.prog 174 := ⟨_, Tryz.func174, by kernel_rfl, rfl⟩
theorem cf176 : CF Tryz.prog 176 := ⟨_, Tryz.func176, by kernel_rfl, rfl⟩
theorem cf188 : CF Tryz.prog 188 := ⟨_, Tryz.func188, by kernel_rfl, rfl⟩
theorem cf189 : CF Tryz.prog 189 := ⟨_, Tryz.func189, by kernel_rfl, rfl⟩
theorem cf190 : CF Tryz.prog 190 := ⟨_, Tryz.func190, by kernel_rfl, rfl⟩
theorem cf192 : CF Tryz.prog 192 := ⟨_, Tryz.func192, by kernel_rfl, rfl⟩
theorem cf206 : CF Tryz.prog 206 := ⟨_, Tryz.func206, by kernel_rfl, rfl⟩
theorem cf207 : CF Tryz.prog 207 := ⟨_, Tryz.func207, by kernel_rfl, rfl⟩
theorem cf208 : CF Tryz.prog 208 := ⟨_, Tryz.func208, by kernel_rfl, rfl⟩
theorem cf210 : CF Tryz.prog 210 := ⟨_, Tryz.func210, by kernel_rfl, rfl⟩
theorem cf212 : CF Tryz.prog 212 := ⟨_, Tryz.func212, by kernel_rfl, rfl⟩
theorem cf213 : CF Tryz.prog 213 := ⟨_, Tryz.func213, by kernel_rfl, rfl⟩
theorem cf218 : CF Tryz.prog 218 := ⟨_, Tryz.func218, by kernel_rfl, rfl⟩
theorem cf219 : CF Tryz.prog 219 := ⟨_, Tryz.func219, by kernel_rfl, rfl⟩
theorem cf220 : CF Tryz.prog 220 := ⟨_, Tryz.func220, by kernel_rfl, rfl⟩
theorem cf221 : CF Tryz.prog 221 := ⟨_, Tryz.func221, by kernel_rfl, rfl⟩
theorem cf231 : CF Tryz.prog 231 := ⟨_, Tryz.func231, by kernel_rfl, rfl⟩
theorem cf232 : CF Tryz.prog 232 := ⟨_, Tryz.func232, by kernel_rfl, rfl⟩
theorem cf242 : CF Tryz.prog 242 := ⟨_, Tryz.func242, by kernel_rfl, rfl⟩
theorem cf243 : CF Tryz.prog 243 := ⟨_, Tryz.func243, by kernel_rfl, rfl⟩
theorem cf250 : CF Tryz.prog 250 := ⟨_, Tryz.func250, by kernel_rfl, rfl⟩
section
variable {α β : Type} {f : α → List β} {z : Nat}
theorem xbx (hz : ∀ x, (f x).length = z) (l : List α) : (l.flatMap f).length = l.length * z := by
  induction l with
  | nil => simp
  | cons x l ih => rw [List.flatMap_cons, List.length_append, ih, hz, List.length_cons, Nat.succ_mul, Nat.add_comm]
theorem xhi (l : List α) (i : Nat) (hi : i < l.length) : l.flatMap f = (l.take i).flatMap f ++ (f l[i] ++ (l.drop (i + 1)).flatMap f) := by
  conv => lhs; rw [← List.take_append_drop i l]
  rw [List.flatMap_append, List.drop_eq_getElem_cons hi, List.flatMap_cons]
theorem xde (hz : ∀ x, (f x).length = z) (l : List α) (i : Nat) (hi : i ≤ l.length) : ((l.take i).flatMap f).length = i * z := by
  rw [xbx hz, List.length_take, Nat.min_eq_left hi]
theorem xda (hz : ∀ x, (f x).length = z) (l : List α) (sp : List β) (i : Nat) (hi : i < l.length) : ((l.flatMap f ++ sp).drop (i * z)).take z = f l[i] := by
  have h := xja ((l.take i).flatMap f) (f l[i]) ((l.drop (i + 1)).flatMap f ++ sp) z (hz _); rw [xde hz l i (by omega)] at h; rw [xhi l i hi, List.append_assoc, List.append_assoc]; exact h
theorem xj0 (hz : ∀ x, (f x).length = z) (l : List α) (sp : List β) (i j : Nat) (hi : i < l.length) (hj : j < z) : (l.flatMap f ++ sp)[i * z + j]? = (f l[i])[j]? := by
  rw [← xda hz l sp i hi, List.getElem?_take_of_lt hj, List.getElem?_drop]
theorem fm_sub (hz : ∀ x, (f x).length = z) (l : List α) (sp : List β) (i k m : Nat) (hi : i < l.length) (hk : k + m ≤ z) : ((l.flatMap f ++ sp).drop (i * z + k)).take m = ((f l[i]).drop k).take m := by
  rw [← xda hz l sp i hi, List.drop_take, List.drop_drop, List.take_take, Nat.min_eq_left (by omega)]
theorem xe4 (hz : ∀ x, (f x).length = z) (l : List α) (sp : List β) (i : Nat) (y : α) (hi : i < l.length) : splice (l.flatMap f ++ sp) (i * z) (f y) = (l.set i y).flatMap f ++ sp := by
  have h := xa5 ((l.take i).flatMap f) (f l[i]) ((l.drop (i + 1)).flatMap f ++ sp) (f y) (by rw [hz, hz]); rw [xde hz l i (by omega)] at h; have e1 : l.flatMap f ++ sp = (l.take i).flatMap f ++ (f l[i] ++ ((l.drop (i + 1)).flatMap f ++ sp)) := by rw [xhi l i hi, List.append_assoc, List.append_assoc]
  have e2 : (l.set i y).flatMap f ++ sp = (l.take i).flatMap f ++ (f y ++ ((l.drop (i + 1)).flatMap f ++ sp)) := by
    rw [List.set_eq_take_append_cons_drop, if_pos hi, List.flatMap_append, List.flatMap_cons, List.append_assoc, List.append_assoc]
  rw [e1, h, e2]
theorem xgl (hz : ∀ x, (f x).length = z) (l : List α) (sp : List β) (i k : Nat) (vs : List β) (y : α) (hi : i < l.length) (hk : k + vs.length ≤ z) (hy : splice (f l[i]) k vs = f y) : splice (l.flatMap f ++ sp) (i * z + k) vs = (l.set i y).flatMap f ++ sp := by
  have hl := xde hz l i (by omega); have e1 : l.flatMap f ++ sp = (l.take i).flatMap f ++ (f l[i] ++ ((l.drop (i + 1)).flatMap f ++ sp)) := by rw [xhi l i hi, List.append_assoc, List.append_assoc]
  have e2 : (l.set i y).flatMap f ++ sp = (l.take i).flatMap f ++ (f y ++ ((l.drop (i + 1)).flatMap f ++ sp)) := by
    rw [List.set_eq_take_append_cons_drop, if_pos hi, List.flatMap_append, List.flatMap_cons, List.append_assoc, List.append_assoc]
  rw [e1, e2, ← hy]; have hfl : (f l[i]).length = z := hz _; unfold splice; rw [List.take_append, List.drop_append, hl]; have t1 : i * z + k - i * z = k := by omega
  have t2 : i * z + k + vs.length - i * z = k + vs.length := by omega
  have d1 : List.take (i * z + k) ((l.take i).flatMap f) = (l.take i).flatMap f := List.take_of_length_le (by omega); have d2 : List.drop (i * z + k + vs.length) ((l.take i).flatMap f) = [] := List.drop_of_length_le (by omega); rw [t1, t2, d1, d2, List.nil_append, List.take_append_of_le_length (by omega), List.drop_append_of_le_length (by omega)]; simp only [qo]
theorem fm_set (hz : ∀ x, (f x).length = z) (l : List α) (sp : List β) (i k : Nat) (v : β) (y : α) (hi : i < l.length) (hk : k < z) (hy : (f l[i]).set k v = f y) : (l.flatMap f ++ sp).set (i * z + k) v = (l.set i y).flatMap f ++ sp := by
  have hl := xde hz l i (by omega); have e1 : l.flatMap f ++ sp = (l.take i).flatMap f ++ (f l[i] ++ ((l.drop (i + 1)).flatMap f ++ sp)) := by rw [xhi l i hi, List.append_assoc, List.append_assoc]
  have e2 : (l.set i y).flatMap f ++ sp = (l.take i).flatMap f ++ (f y ++ ((l.drop (i + 1)).flatMap f ++ sp)) := by
    rw [List.set_eq_take_append_cons_drop, if_pos hi, List.flatMap_append, List.flatMap_cons, List.append_assoc, List.append_assoc]
  have hfl : (f l[i]).length = z := hz _; rw [e1, e2, ← hy, List.set_append, if_neg (by omega), hl, List.set_append, if_pos (by omega)]; congr 3; omega
end
structure En where
  nd : Nd
  count : Int
  val : List UInt8
def En.cells (e : En) : List Value := (e.nd.slo e.count).cells
theorem En.len (e : En) : e.cells.length = 104 := Slo.len _
theorem En.cells_eq (e : En) : e.cells = e.nd.cells ++ [.int .i64 e.count] := Nd.slo_cells _ _
theorem En.g_count (e : En) : e.cells[103]? = some (.int .i64 e.count) := Slo.g_count _
theorem En.g_nd (e : En) : (e.cells.drop 0).take 103 = e.nd.cells := by
  rw [En.cells_eq, List.drop_zero, List.take_left' (Nd.len _)]
structure Sb where
  slots : List En
  free : List Nat
  room : Nat
  used : Nat
structure Sb.Ok (σ : Sb) : Prop where
  r1 : 1 ≤ σ.room
  r2 : σ.room ≤ 65536
  fit : σ.used + σ.free.length = σ.slots.length
  few : σ.slots.length ≤ σ.room
  fr : ∀ n ∈ σ.free, 1 ≤ n ∧ n ≤ σ.slots.length
def rowS (σ : Sb) : List Value := σ.slots.flatMap En.cells
def rowF (σ : Sb) : List Value := σ.free.map fun n : Nat => .int .i64 (n : Int)
def SbS (g : Nat) (vs vf : Sv) : Nat → Prop := fun k => k = g ∨ vs.v.ownBlock = some k ∨ vf.v.ownBlock = some k
structure SbP (D : Nat → Prop) (w : World) (g : Nat) (σ : Sb) (vs vf : Sv) : Prop where
  blk : Blk w g 318 [vs.v, vf.v, .int .i64 (σ.room : Int), .int .i64 (σ.used : Int)]
  slots : w.ownsRow 0 340 104 vs.v σ.slots.length (rowS σ)
  free : w.ownsRow 0 3 1 vf.v σ.free.length (rowF σ)
  ok : σ.Ok
  own : ∀ k, SbS g vs vf k → D k
  lt : ∀ k, D k → k < w.heap.size
  vals : ∀ e ∈ σ.slots, Lft (SbS g vs vf) w e.nd.vs.A e.nd.vs.n e.nd.vs.c e.val ∧ ∀ ad, e.nd.vs.A = some ad → D ad.block
theorem xbq {w w' : World} {base e z n : Nat} {v : Value} {xs : List Value} (h : w.ownsRow base e z v n xs) (hk : ∀ k, v.ownBlock = some k → w'.heap[k]? = w.heap[k]?) : w'.ownsRow base e z v n xs := by
  obtain ⟨hl, h⟩ := h; rcases h with ⟨rfl, rfl⟩ | ⟨g, cap, cur, rfl, hg, hh, hn, hm, hs, ht⟩
  · exact ⟨hl, .inl ⟨rfl, rfl⟩⟩
  · exact ⟨hl, .inr ⟨g, cap, cur, rfl, hg, by rw [hk g rfl]; exact hh, hn, hm, hs, ht⟩⟩
theorem xfv {w : World} {base e z n : Nat} {v : Sv} {xs : List Value} (h : w.ownsRow base e z v.v n xs) (hn : 0 < n) : ∃ G sp, v = ⟨some ⟨G, 0, none⟩, n, v.c⟩ ∧ v.v.ownBlock = some G ∧ Blk w G e (xs ++ sp) ∧ n ≤ v.c ∧ v.c ≤ maxLen ∧ (xs ++ sp).length = v.c * z := by
  obtain ⟨hl, h⟩ := h; rcases h with ⟨h1, h2⟩ | ⟨g, cap, cur, h1, hg, hh, hn', hm, hs, ht⟩
  · omega
  · obtain ⟨A, m, c⟩ := v
    unfold Sv.v at h1; simp only [Value.slice.injEq] at h1; obtain ⟨rfl, rfl, rfl⟩ := h1; have e0 : xs ++ cur.toList.drop (m * z) = cur.toList := by rw [← ht, List.take_append_drop]
    refine ⟨g, cur.toList.drop (m * z), rfl, rfl, ?_, hn', hm, ?_⟩
    · unfold Blk; rw [e0]; exact hh
    · rw [e0]; simpa using hs
section
variable {D : Nat → Prop} {w w' : World} {g : Nat} {σ : Sb} {vs vf : Sv}
theorem SbP.D_g (h : SbP D w g σ vs vf) : D g := h.own g (.inl rfl)
theorem SbP.fr (h : SbP D w g σ vs vf) {T : Nat → Prop} (hf : Fr T w w') (hT : ∀ k, D k → ¬ T k) : SbP D w' g σ vs vf :=
  ⟨h.blk.fr hf (hT g h.D_g), xbq h.slots (fun k hk => hf.block k (h.lt k (h.own k (.inr (.inl hk)))) (hT k (h.own k (.inr (.inl hk))))),
   xbq h.free (fun k hk => hf.block k (h.lt k (h.own k (.inr (.inr hk)))) (hT k (h.own k (.inr (.inr hk))))), h.ok, h.own, fun k hk => Nat.lt_of_lt_of_le (h.lt k hk) hf.size,
   fun e he => by
    obtain ⟨h1, h2⟩ := h.vals e he
    exact ⟨⟨h1.len, h1.cap, h1.max, h1.rd.fr hf (fun ad e t => hT _ (h2 ad e) t), h1.far⟩, h2⟩⟩
theorem SbP.below (h : SbP D w g σ vs vf) (hb : Below w.heap.size w w') : SbP D w' g σ vs vf := h.fr (T := fun _ => False) (Fr.of_below hb) (fun _ _ f => f)
theorem SbP.c2 (h : SbP D w g σ vs vf) : w.cell? ⟨g, 2, none⟩ = some (.int .i64 (σ.room : Int)) := by rw [h.blk.cell]; rfl
theorem SbP.c3 (h : SbP D w g σ vs vf) : w.cell? ⟨g, 3, none⟩ = some (.int .i64 (σ.used : Int)) := by rw [h.blk.cell]; rfl
theorem SbP.c0 (h : SbP D w g σ vs vf) : w.cell? ⟨g, 0, none⟩ = some vs.v := by rw [h.blk.cell]; rfl
theorem SbP.vfn (h : SbP D w g σ vs vf) : vf.n = σ.free.length := by
  obtain ⟨A, c, e, _⟩ := xgq h.free; unfold Sv.v at e; simp only [Value.slice.injEq] at e; exact e.2.1
theorem xff (h : SbP D w g σ vs vf) : Calls Tryz.prog 213 #[.pointer (some ⟨g, 0, none⟩)] w fun e w' => e = .returned (.bool false) ∧ w = w' := by
  have hc := h.c2; have hr : ((σ.room : Int) == 0) = false := by have := h.ok.r1; simp; omega
  have HL := Loc.start w; clear h; go_enter Tryz.func213, Tryz.ntmps213; go_upto_region 0 with fail; refine X1k ?_; go_upto_region 1 with fail; refine X1m ?_; refine X1q ?_; refine xab rfl _ (xaf xje _ rfl _ rfl) ?_; refine X1r ?_; refine X1w ?_; go_wp2_with fail; go_ret; exact ⟨rfl, rfl⟩
theorem sb_len (h : SbP D w g σ vs vf) : Calls Tryz.prog 156 #[.pointer (some ⟨g, 0, none⟩)] w fun e w' => e = .returned (.int .i64 (σ.used : Int)) ∧ w = w' := by
  have hc := h.c3; have HL := Loc.start w; go_enter Tryz.func156, Tryz.ntmps156; go_upto_region 0 with fail; refine X1k ?_; go_upto_region 1 with fail; refine X20 ?_; intro K hK; (with_reducible refine (xff h).mono ?_); rintro e w ⟨rfl, rfl⟩; refine X23 ?_; clear hK K; go_upto_region 3 with fail; refine X16 ?_; refine X24 ?_; refine X5 ?_; refine X25 ?_; refine X1c ?_; go_wp2_with fail; go_ret; exact ⟨rfl, rfl⟩
theorem sb_room (h : SbP D w g σ vs vf) : Calls Tryz.prog 206 #[.pointer (some ⟨g, 0, none⟩)] w fun e w' => e = .returned (.int .i64 (σ.room : Int)) ∧ w = w' := by
  have hc := h.c2; have HL := Loc.start w; go_enter Tryz.func206, Tryz.ntmps206; go_upto_region 0 with fail; refine X1k ?_; go_upto_region 1 with fail; refine X20 ?_; intro K hK; (with_reducible refine (xff h).mono ?_); rintro e w ⟨rfl, rfl⟩; refine X23 ?_; clear hK K; go_upto_region 3 with fail; refine X16 ?_; refine xaa rfl _ (xaf xje _ rfl _ rfl) ?_; refine X5 ?_; refine X25 ?_; refine X1c ?_; go_wp2_with fail; go_ret; exact ⟨rfl, rfl⟩
theorem SbP.slot (h : SbP D w g σ vs vf) (i : Nat) (hi : i < σ.slots.length) : ∃ G sp, vs = ⟨some ⟨G, 0, none⟩, σ.slots.length, vs.c⟩ ∧ D G ∧ SbS g vs vf G ∧ Blk w G 340 (rowS σ ++ sp) ∧ σ.slots.length ≤ vs.c ∧ vs.c ≤ maxLen := by
  obtain ⟨G, sp, e, ho, hb, h1, h2, h3⟩ := xfv h.slots (by omega); exact ⟨G, sp, e, h.own G (.inr (.inl ho)), .inr (.inl ho), hb, h1, h2⟩
theorem xh9 (i : Nat) (hi : i < σ.slots.length) (sp : List Value) : (rowS σ ++ sp)[i * 104 + 103]? = some (.int .i64 σ.slots[i].count) := by
  unfold rowS; rw [xj0 En.len _ _ i 103 hi (by omega), En.g_count]
theorem row_nd (i : Nat) (hi : i < σ.slots.length) (sp : List Value) : ((rowS σ ++ sp).drop (i * 104)).take 103 = σ.slots[i].nd.cells := by
  unfold rowS; have h := fm_sub En.len σ.slots sp i 0 103 hi (by omega); rw [Nat.add_zero] at h; rw [h, En.g_nd]
theorem xtl (h : SbP D w g σ vs vf) (n : Int) (i : Nat) (hn : n = (i : Int) + 1) (hi : i < σ.slots.length) (hc : σ.slots[i].count ≠ 0) :
    Calls Tryz.prog 231 #[.pointer (some ⟨g, 0, none⟩), .int .i64 n] w fun e w' => ∃ G, vs.A = some ⟨G, 0, none⟩ ∧ e = .returned (.pointer (some ⟨G, i * 104, none⟩)) ∧ w = w' := by
  obtain ⟨G, sp, he, hD, hS, hb, hcap, hmx⟩ := h.slot i hi; have hc0 := h.c0; have hr1 := h.ok.few; have hr2 := h.ok.r2; have hcell : w.cell? ⟨G, i * 104 + 103, none⟩ = some (.int .i64 σ.slots[i].count) := by rw [hb.cell, xh9 i hi sp]
  have k1 : decide (n < 1) = false := by simp; omega
  have k2 : decide ((σ.slots.length : Int) < n) = false := by simp; omega
  have k3 : (σ.slots[i].count == 0) = false := by simpa using hc
  have HN := hZ hn; have hni : Hid (n - 1 = (i : Int)) := hZ (by omega); have HA : Hid (vs.A = some ⟨G, 0, none⟩) := hZ (by rw [he]); generalize σ.slots[i].count = ct at *; rw [he] at hc0; have hlen : σ.slots.length ≤ 65536 := by omega
  refine X26 ?_; intro C HL; clear he hb hn hr1 hr2; generalize σ.slots.length = m at *; go_enter Tryz.func231, Tryz.ntmps231; go_upto_region 0 with fail; refine X1k ?_; go_upto_region 1 with fail; refine X20 ?_; intro K hK; (with_reducible refine ((C _).out h).mono ?_); rintro e w ⟨rfl, rfl⟩; refine X21 ?_; clear hK K; refine X1o ?_; refine X1s ?_; refine X27 ?_; refine X28 ?_; refine X1p ?_; refine X5 ?_; refine xab rfl _ (xaf xfe _ rfl _ rfl) ?_; refine X29 ?_; refine X5 ?_; refine xab rfl _ (xa8 Tryz.underlying316 _ rfl _ _ _ rfl) ?_; refine X1t ?_; refine X27 ?_; refine X1q ?_; refine xab rfl _ (xaf xfe _ rfl _ rfl) ?_; refine X29 ?_; refine X2a ?_; refine xab rfl _ (xbv _ _ rfl _ _ (i : Int) rfl rfl hni.out (by omega)) ?_; refine X5 ?_
  refine xab rfl _ (xbe xol _ _ rfl G _ _ i _ rfl rfl hi) ?_; refine X5 ?_; refine xab rfl _ (xcr xr5 _ rfl _ _ rfl) ?_; refine X1r ?_; refine X2d ?_; go_upto_region 3 with fail; refine X16 ?_; refine xaa rfl _ (xaf xfe _ rfl _ rfl) ?_; refine X5 ?_; refine xaa rfl _ (xcv sc316 HL _ rfl _ rfl _ (by with_reducible assumption)) ?_; refine X17 ?_; refine xaa rfl _ (xbv _ _ rfl _ _ (i : Int) rfl rfl hni.out (by omega)) ?_; refine X5 ?_; refine xaa rfl _ (xbe xol _ _ rfl G _ _ i _ rfl rfl hi) ?_; refine X1c ?_; go_wp2_with fail; go_ret; exact ⟨G, HA.out, rfl, rfl⟩
theorem sb_at_no (h : SbP D w g σ vs vf) (n : Int) (hn : n < 1) :
    Calls Tryz.prog 231 #[.pointer (some ⟨g, 0, none⟩), .int .i64 n] w fun e w' => e = .returned (.pointer none) ∧ w = w' := by
  have k1 : decide (n < 1) = true := by simp; omega
  refine X26 ?_; intro C HL; go_enter Tryz.func231, Tryz.ntmps231; go_upto_region 0 with fail; refine X1k ?_; go_upto_region 1 with fail; refine X20 ?_; intro K hK; (with_reducible refine ((C _).out h).mono ?_); rintro e w ⟨rfl, rfl⟩; refine X21 ?_; clear hK K; refine X1o ?_; refine X1s ?_; refine X27 ?_; refine X2h ?_; refine no_implicit_lambda% (X2f ?_); refine no_implicit_lambda% (X2e ?_); refine X1l ?_; refine X2j ?_; refine no_implicit_lambda% (X2f ?_); refine X2b ?_; go_upto_region 2 with fail; refine X1k ?_; go_wp2_with fail; go_ret; exact ⟨rfl, rfl⟩
theorem xqo (h : SbP D w g σ vs vf) (n : Int) (i : Nat) (hn : n = (i : Int) + 1) (hi : i < σ.slots.length) (hc : σ.slots[i].count ≠ 0) :
    Calls Tryz.prog 192 #[.pointer (some ⟨g, 0, none⟩), .int .i64 n] w fun e w' => e = .returned (.tuple #[.agg σ.slots[i].nd.cells.toArray, .int .i64 0]) ∧ Below w.heap.size w w' := by
  obtain ⟨G, sp, he, hD, hS, hb, hcap, hmx⟩ := h.slot i hi; have hgn := row_nd i hi sp; have HA : vs.A = some ⟨G, 0, none⟩ := by rw [he]
  have HH := hZ (And.intro h (And.intro hn hc)); have hO : Old w G := h.lt G hD; clear h he hn hc; have HL := Loc.start w; go_enter Tryz.func192, Tryz.ntmps192; go_upto_region 0 with fail; refine Xv ?_; refine X2k ?_; clear HL; intro g4 w HL; go_upto_region 1 with fail; refine Xv ?_; refine X2l ?_; clear HL; intro g6 w HL; refine X22 ?_; go_upto_region 2 with fail; refine X20 ?_; intro K hK; refine X2m ?_; rintro e w ⟨rfl, rfl⟩; refine X23 ?_; clear hK K; go_upto_region 4 with fail; refine X2n ?_; intro K hK; refine X2o ?_; refine X2p ?_; rintro e w ⟨G', hG, rfl, rfl⟩; obtain rfl : G' = G := by rw [HA] at hG; cases hG; rfl
  refine X2q ?_; clear hK K; go_upto_region 5 with fail; refine X2r ?_; go_upto_region 7 with fail; refine X16 ?_; refine xaa rfl _ (xcr xr4 _ rfl _ _ rfl) ?_; refine X5 ?_; refine xaa rfl _ (xgc xe3 HL _ rfl _ _ rfl _ _ _ hO hb hgn (Nd.len _)) ?_; refine X5 ?_; refine X2s ?_; refine X2u ?_; clear HL; intro w HL; go_wp2_with fail; refine Xf ?_; refine X2v ?_; exact ⟨rfl, HL.below⟩
theorem xtm (h : SbP D w g σ vs vf) (n : Int) (hn : n < 1) :
    Calls Tryz.prog 192 #[.pointer (some ⟨g, 0, none⟩), .int .i64 n] w fun e w' => e = .returned (.tuple #[.agg Nd.z.cells.toArray, .int .i64 7]) ∧ Below w.heap.size w w' := by
  have HL := Loc.start w; go_enter Tryz.func192, Tryz.ntmps192; go_upto_region 0 with fail; refine Xv ?_; refine X2k ?_; clear HL; intro g4 w HL; go_upto_region 1 with fail; refine Xv ?_; refine X2l ?_; clear HL; intro g6 w HL; refine X22 ?_; go_upto_region 2 with fail; refine X20 ?_; intro K hK; (with_reducible refine (xff (h.below HL.below)).mono ?_); rintro e w ⟨rfl, rfl⟩; refine X23 ?_; clear hK K; go_upto_region 4 with fail; refine X2n ?_; intro K hK; refine X2o ?_; (with_reducible refine (sb_at_no (h.below HL.below) n hn).mono ?_); rintro e w ⟨rfl, rfl⟩; refine X2q ?_; clear hK K; go_upto_region 5 with fail; refine X2r ?_; go_upto_region 6 with fail; refine Xv ?_; refine X2w ?_; refine X5 ?_; refine X2s ?_; refine X2u ?_; clear HL; intro w HL; go_wp2_with fail; refine Xf ?_; refine X2v ?_; exact ⟨rfl, HL.below⟩
end
section
variable {P : Program} {T E : TypeId} {z b : Nat} {zv : Value} {w : World} {o : Oper} {a : Act} {K : Act → World → Prop} {Q : Exit → Act → World → Prop}
theorem xj1 (B : ST P T E z) (I : ET P E zv z b) (hz : z ≤ 10000) (x : Operand) (ho : o.op = .buildSlice T 1 #[(0, x)]) (v : Value) (hx : a.eval x = v) (hl : v.cells.size = z)
    (h : K (a.put o.dst (.slice (some ⟨w.heap.size, 0, none⟩) 1 1)) (w.alloc (.cells v.cells E))) : o.wp P a w K Q := by
  obtain ⟨i, hi, hzz, hsz, _⟩ := info_parts I.i; have hp := I.p; have e : (w.alloc (.cells v.cells E)) = (w.alloc (.cells ((List.map (fun v : Value => v) [v]).flatMap fun v => v.cells.toList).toArray E)) := by simp
  refine wp_buildSlice T E 1 _ ho _ i _ B.t hi hzz (by rw [hsz]; omega) (by rw [hsz]; omega) ?_ (by rw [e] at h; exact h); have h2 : ((#[(0, x)] : Array (Nat × Operand)).map fun (i, x) => (i, a.eval x)).toList = (([v] : List Value).zipIdx 0).map fun x => (x.2, x.1) := by simp [hx]
  rw [h2, hsz, Great.fill_whole hp _ _ ?_ ?_]
  · simp
  · intro u hu
    simp at hu; subst hu; exact hl
  · simp
theorem xia (B : ST P T E z) (I : ET P E zv z b) (hz : z ≤ 10000) (x : Operand) (ho : o.op = .buildSlice T 1 #[(0, x)]) (cs : List Value) (hx : a.eval x = .agg cs.toArray) (hl : cs.length = z)
    (h : K (a.put o.dst (.slice (some ⟨w.heap.size, 0, none⟩) 1 1)) (w.alloc (.cells cs.toArray E))) : o.wp P a w K Q :=
  xj1 B I hz x ho _ hx (by simpa [Value.cells] using hl) h
theorem xgt (B : ST P T E 1) (I : ET P E zv 1 b) (x : Operand) (ho : o.op = .buildSlice T 1 #[(0, x)]) (v : Value) (hx : a.eval x = v) (h1 : v.oneCell' = true)
    (h : K (a.put o.dst (.slice (some ⟨w.heap.size, 0, none⟩) 1 1)) (w.alloc (.cells [v].toArray E))) : o.wp P a w K Q := by
  have hv : v.cells = #[v] := by cases v <;> first | rfl | (simp [Value.oneCell'] at h1)
  exact xj1 B I (by omega) x ho v hx (by rw [hv]; rfl) (by rw [hv]; exact h)
theorem xfg (B : ST P T E z) (I : ET P E zv z b) (s x : Operand) (ho : o.op = .call { callee := .builtin .append, args := #[s, x], argTypes := #[T, T] }) (v : Sv) (n : Nat) (xs : List Value) (hs : a.eval s = v.v)
    (hown : w.ownsRow 0 E z v.v n xs) (ad : Addr) (m c : Nat) (ys : List Value) (hx : a.eval x = .slice (some ad) m c) (hr : Rd w (some ad) ys) (hy : ys.length = m * z) (h1 : ∀ u ∈ ys, u.oneCell' = true) (hm : 0 < m)
    (hbytes : (n + m) * b ≤ 140737488355328) (h63 : n + m ≤ 140737488355328)
    (h : ∀ (v' : Sv) w', w'.ownsRow 0 E z v'.v (n + m) (xs ++ ys) → w.grownBy w' v.v.ownBlock → (∀ k, v'.v.ownBlock = some k → v.v.ownBlock = some k ∨ k = w.heap.size) → (∀ k, v'.v.ownBlock = some k → k < w'.heap.size) → K (a.put o.dst v'.v) w') : o.wp P a w K Q := by
  obtain ⟨i, hi, hzz, hsz, hb⟩ := info_parts I.i; have hp := I.p; have hpos : 0 < ys.length := by rw [hy]; exact Nat.mul_pos hm hp
  obtain ⟨ad', e, hc⟩ := hr hpos; cases e; refine wp_append_lies w s x T ho 0 E i _ z b B.t hi hzz hsz hb I.c hp v.v n xs hs hown ad m c ys hx hy hc h1 hm (by unfold maxLen; omega) hbytes (Nat.zero_le _) w.heap.size rfl ?_; intro g cap w' h2 h3 h4 h5; refine h ⟨some ⟨g, 0, none⟩, n + m, cap⟩ w' h2 h3 ?_ ?_
  · intro k hk
    simp [Sv.v, Value.ownBlock] at hk; subst hk; rcases h4 with h4 | h4
    · exact .inl h4
    · exact .inr h4
  · intro k hk
    simp [Sv.v, Value.ownBlock] at hk; subst hk; exact h5
end
section
variable {P : Program} {T E : TypeId} {z b : Nat} {zv : Value} {w0 w : World} {D : Nat → Prop} {L : List (Nat × Nat × List Value)} {ops : Array Oper} {rest : List Oper} {o : Oper} {a : Act} {K : Act → World → Prop} {Q : Exit → Act → World → Prop}
theorem xj2 (B : ST P T E 1) (I : ET P E zv 1 b) (hgd : o.guard = none) (x : Operand) (ho : o.op = .buildSlice T 1 #[(0, x)]) (H : Loc w0 D L w) (v : Value) (hx : a.eval x = v) (h1 : v.oneCell' = true)
    (h : ∀ g w', Loc w0 D ((g, E, [v]) :: L) w' → wpList P ops Q rest (a.put o.dst (.slice (some ⟨g, 0, none⟩) 1 1)) w') : wpList P ops Q (o :: rest) a w :=
  wpList_plain hgd fun K hK => xgt B I x ho v hx h1 (hK _ _ (h _ _ (H.new E [v])))
theorem xlu (B : ST P T E z) (I : ET P E zv z b) (hz : z ≤ 10000) (hgd : o.guard = none) (x : Operand) (ho : o.op = .buildSlice T 1 #[(0, x)]) (H : Loc w0 D L w) (cs : List Value) (hx : a.eval x = .agg cs.toArray) (hl : cs.length = z)
    (h : ∀ g w', Loc w0 D ((g, E, cs) :: L) w' → wpList P ops Q rest (a.put o.dst (.slice (some ⟨g, 0, none⟩) 1 1)) w') : wpList P ops Q (o :: rest) a w :=
  wpList_plain hgd fun K hK => xia B I hz x ho cs hx hl (hK _ _ (h _ _ (H.new E cs)))
def Rest (w : World) (L : List (Nat × Nat × List Value)) : Nat → Prop := fun k => k < w.heap.size ∧ ∀ x ∈ L, x.1 ≠ k
theorem Loc.redo (H : Loc w0 D L w) {T : Nat → Prop} {w' : World} (hf : Fr T w w') (hL : ∀ x ∈ L, ¬ T x.1) : Loc w' (Rest w' L) L w' :=
  H.anew hf hL _ (fun k hk => hk.1) (fun x hx hk => hk.2 x hx rfl)
end
end Go.Proofs.YtkjjdgnkelchfaaGreat
