import Derived.Test.YtkjjdgnkelchfaaGreatPTU17
set_option linter.unusedSimpArgs false
set_option linter.unusedVariables false
set_option maxRecDepth 100000
set_option maxHeartbeats 16000000
namespace Go.Proofs.YtkjjdgnkelchfaaGreat
open Go Go.RowKit
theorem xky {P : Program} {T : TypeId} {w : World} {a : Act} {o : Oper} (B : W1 P T) (x : Operand) (ho : o.op = .load T x) (ad : Addr) (v : Value) (hx : a.eval x = .pointer (some ad)) (hc : w.cell? ad = some v) : (execOp a.eval o).run P w = .ok (.value v) w := by
  obtain ⟨d, hu, hd⟩ := B.u; exact xby hu hd x ho _ _ hx hc
abbrev SX (gr : Nat) (s : Srd) (Gk Gd Gs X : List (Nat × Nat × List Value)) : List (Nat × Nat × List Value) := (gr, 138, s.cells) :: (Gk ++ (Gd ++ (Gs ++ X)))
def LfO (W0 : World) (D : Nat → Prop) (X : List (Nat × Nat × List Value)) (gr : Nat) (s : Srd) (Gs : List (Nat × Nat × List Value)) (KL VL : List D32) (b : Brv) (top : D32) (d : Nat) (e : Ending) (w' : World) : Prop :=
  ∃ (s' : Srd) (Gk' Gd' : List (Nat × Nat × List Value)), e = .returned (.tuple #[(tagL b.key b.val).a, .bool (xa1 b.key.l top.l d)]) ∧
    Gw 24 32 Gk' s'.keys (KL ++ if inB s.fr.l s.til.l b.key.l = true then [b.key] else []).length ((KL ++ if inB s.fr.l s.til.l b.key.l = true then [b.key] else []).flatMap D32.c) ∧
    Gw 23 32 Gd' s'.digs (VL ++ if inB s.fr.l s.til.l b.key.l = true then [b.val] else []).length ((VL ++ if inB s.fr.l s.til.l b.key.l = true then [b.val] else []).flatMap D32.c) ∧
    s'.fr = s.fr ∧ s'.til = s.til ∧ s'.rest = s.rest ∧ s'.emp = s.emp ∧ s'.key = s.key ∧ s'.sides = s.sides ∧ s'.nod = (if xa1 s.key.l top.l d = true then ⟨1, b.key, b.val, D32.z, D32.z⟩ else s.nod) ∧ Loc W0 D (SX gr s' Gk' Gd' Gs X) w'
section
variable {w w' : World}
theorem xrl (W0 : World) (D : Nat → Prop) (X : List (Nat × Nat × List Value)) (gr : Nat) (s : Srd) (Gk Gd Gs : List (Nat × Nat × List Value)) (KL VL : List D32) (b : Brv) (top : D32) (d : Nat) (hd : d ≤ 256) (w : World) (hGk : Gw 24 32 Gk s.keys KL.length (KL.flatMap D32.c)) (hGd : Gw 23 32 Gd s.digs VL.length (VL.flatMap D32.c)) (hKV : KL.length ≤ 1000000 ∧ VL.length ≤ 1000000)
    (H : Loc W0 D (SX gr s Gk Gd Gs X) w) : Calls Tryz.prog 172 #[.pointer (some ⟨gr, 0, none⟩), .agg b.cells.toArray, top.a, .int .i64 (d : Int)] w (LfO W0 D X gr s Gs KL VL b top d) := by
  have HL := H; clear H; have CH := fun u => hZ (xsp s.str b.key u)
  obtain ⟨hi, hhi⟩ : ∃ r, inB s.fr.l s.til.l b.key.l = r := ⟨_, rfl⟩; have hhi2 : inB s.str.fr.l s.str.til.l b.key.l = hi := hhi; simp only [hhi2] at CH; obtain ⟨un, hun⟩ : ∃ r, xa1 s.key.l top.l (d : Int) = r := ⟨_, rfl⟩; obtain ⟨ub, hub⟩ : ∃ r, xa1 b.key.l top.l (d : Int) = r := ⟨_, rfl⟩; have CU := fun u => hZ (xhn u s.key top (d : Int) (by omega))
  have CB := fun u => hZ (xhn u b.key top (d : Int) (by omega))
  simp only [hun] at CU; simp only [hub] at CB; have HHI := hZ hhi; have HUN := hZ hun; have HUB := hZ hub; clear hhi hhi2 hun hub; go_enter Tryz.func172, Tryz.ntmps172; go_upto_region 0 with fail; refine Xv ?_; refine X2x ?_; clear HL; intro g5 w HL; refine X5 ?_; refine X76 ?_; clear HL; intro g6 w HL; refine X5 ?_; refine xah zr23 rfl rfl HL ?_; clear HL; intro g8 w HL; refine X1c ?_; go_upto_region 1 with fail; refine X5f ?_; refine Xjt ?_; intro HL; refine X5 ?_; refine Xhs ?_; refine xac rfl rfl HL (fun W hW => xau ag24 hW _ rfl _ _ rfl _ _ _ (.tail _ (.tail _ (.head _))) (Brv.g_key _) (D32.cl _)) ?_; refine Xk ?_; intro K hK; refine xad cf63 rfl _ rfl ?_; refine Xju ?_; refine X4c ?_; intro w HL; refine X5i ?_; clear hK K; refine Xd ?_
  cases hi with
  | true =>
    go_upto_region 2 with fail
    go_cut [] from 17 to 38 (fun wx => ∃ (Gk' Gd' : List (Nat × Nat × List Value)) (sk sd : Sv), Gw 24 32 Gk' sk (KL.length + 1) (KL.flatMap D32.c ++ b.key.c) ∧ Gw 23 32 Gd' sd (VL.length + 1) (VL.flatMap D32.c ++ b.val.c) ∧ Loc W0 D ((g8, 23, D32.z.c) :: (g6, 24, top.c) :: (g5, 124, b.cells) :: SX gr ({s with keys := sk, digs := sd} : Srd) Gk' Gd' Gs X) wx)
    case first =>
      have HX := HL.drew; have HLC : LcC W0 D [(g8, 23, D32.z.c), (g6, 24, top.c), (g5, 124, b.cells)] gr 98 (Sv.v s.digs) w := ⟨HL.drop _ (by simp), by rw [(HL.blk (g := gr) (t := 138) (cs := s.cells) (by simp)).cell]; exact Srd.g_digs _⟩; clear HL; have HL := HLC; clear HLC; refine rB (LcC W0 D [(g8, 23, D32.z.c), (g6, 24, top.c), (g5, 124, b.cells)] gr 98 (Sv.v s.digs)) [23] [5, 8, 9, 16, 17, 20, 21, 23] [0, 1, 2, 3, 4, 6, 7, 10, 11, 12, 13, 14, 15] 11 ?_; refine X3u ?_; intro HL; refine X38 ?_; refine Xjv ?_; refine X5 ?_; refine Xhs ?_; refine xac rfl rfl HL (fun W hW => xau ag24 hW.loc _ rfl _ _ rfl _ _ _ (.tail _ (.tail _ (.head _))) (Brv.g_key _) (D32.cl _)) ?_; refine X3d ?_; refine X3a ?_; refine Xjw ?_; refine X5 ?_; refine xac rfl rfl HL (fun W hW => xky sc29 _ rfl _ _ rfl hW.cell) ?_; refine X5 ?_; refine Xgy ?_; refine X5 ?_
      refine xac rfl rfl HL (fun W hW => xau ag23 hW.loc _ rfl _ _ rfl _ _ _ (.tail _ (.tail _ (.head _))) (Brv.g_val _) (D32.cl _)) ?_; refine X5 ?_; refine xcl [5, 8, 16] (by kernel_rfl) ?_; refine X2 ?_; refine ⟨⟨rfl, ?_⟩, ⟨rfl, ?_⟩, ⟨rfl, ?_⟩, trivial⟩
      · intro K hK
        refine xbs (xag sc26 HX _ rfl _ _ rfl _ _ _ (by repeat (first | exact .head _ | refine .tail _ ?_)) (Srd.g_keys _)) ?_; refine X3w ?_; clear hK K; refine xcl [8, 16] (by kernel_rfl) ?_; refine X2 ?_; refine ⟨⟨rfl, ?_⟩, ⟨rfl, ?_⟩, trivial⟩
        · intro K hK
          refine Xjx ?_; clear HX HL; intro g25 w HX; have HL : LcC W0 D [(g8, 23, D32.z.c), (g6, 24, top.c), (g5, 124, b.cells)] gr 98 (Sv.v s.digs) w := ⟨HX.drop _ (by simp), by rw [(HX.blk (g := gr) (t := 138) (cs := s.cells) (by simp)).cell]; exact Srd.g_digs _⟩; refine X3w ?_; clear hK K; refine xcl [9, 16] (by kernel_rfl) ?_; refine X2 ?_; refine ⟨⟨rfl, ?_⟩, ⟨rfl, ?_⟩, trivial⟩
          · intro K hK
            refine Xjy ?_; intro hrk
            first
            | refine xam sl26 el24 _ _ rfl [_, _, _, _, _] _ s.keys _ hGk HX rfl ⟨g25, 0, none⟩ 1 1 b.key.c rfl hrk (D32.cl _) (D32.c1 _) (by omega) (by omega) (by omega) ?_
            | refine xam sl26 el24 _ _ rfl [_, _, _, _, _, _] _ s.keys _ hGk HX rfl ⟨g25, 0, none⟩ 1 1 b.key.c rfl hrk (D32.cl _) (D32.c1 _) (by omega) (by omega) (by omega) ?_
            clear HX HL; intro sk Gk' w hGk' HX; simp only [qm, qn] at HX; have HL : LcC W0 D [(g8, 23, D32.z.c), (g6, 24, top.c), (g5, 124, b.cells)] gr 98 (Sv.v s.digs) w := ⟨HX.drop _ (by simp), by rw [(HX.blk (g := gr) (t := 138) (cs := s.cells) (by simp)).cell]; exact Srd.g_digs _⟩; refine X3w ?_; clear hK K; refine xbj [16, 17, 18, 19, 20, 21, 22, 23] 0 (by kernel_rfl) ?_; refine Xd5 ?_; intro K hK; refine Xjz ?_; clear HX HL; intro g33 w HX; have HL : LcC W0 D [(g8, 23, D32.z.c), (g6, 24, top.c), (g5, 124, b.cells)] gr 98 (Sv.v s.digs) w := ⟨HX.drop _ (by simp), by rw [(HX.blk (g := gr) (t := 138) (cs := s.cells) (by simp)).cell]; exact Srd.g_digs _⟩; refine Xk0 ?_; clear hK K; intro K hK hrd; refine Xk1 ?_; clear HX HL; intro sd Gd' w hGd' HX; simp only [qm, qn] at HX
            have HL : LcC W0 D [(g8, 23, D32.z.c), (g6, 24, top.c), (g5, 124, b.cells)] gr 98 (Sv.v s.digs) w := ⟨HX.drop _ (by simp), by rw [(HX.blk (g := gr) (t := 138) (cs := s.cells) (by simp)).cell]; exact Srd.g_digs _⟩; refine Xk2 ?_; clear hK K; intro K hK; refine xbh sc26 _ _ rfl HX 5 gr 97 138 _ ({s with keys := sk} : Srd).cells (Sv.v sk) rfl rfl rfl rfl (by rw [Srd.len]; decide) (Srd.s_keys _ _) ?_; refine Xdh ?_; clear HX HL; intro w HX; have HL : LcC W0 D [(g8, 23, D32.z.c), (g6, 24, top.c), (g5, 124, b.cells)] gr 98 (Sv.v s.digs) w := ⟨HX.drop _ (by simp), by rw [(HX.blk (g := gr) (t := 138) (cs := ({s with keys := sk} : Srd).cells) (by simp)).cell]; exact Srd.g_digs _⟩; refine Xk4 ?_; clear hK K; intro K hK; refine xbh sc29 _ _ rfl HX 5 gr 98 138 _ ({s with keys := sk, digs := sd} : Srd).cells (Sv.v sd) rfl rfl rfl rfl (by rw [Srd.len]; decide) (Srd.s_digs _ _) ?_
            refine Xk5 ?_; clear HX HL hK K; intro w HX; go_wp2_with fail; go_meet
            case rel => exact ⟨Gk', Gd', sk, sd, hGk', hGd', (HX.drop _ (sB _ _)).drop _ (sB _ _)⟩
          · intro K hK
            refine Xjz ?_; clear HX HL; intro g33 w HX; have HL : LcC W0 D [(g8, 23, D32.z.c), (g6, 24, top.c), (g5, 124, b.cells)] gr 98 (Sv.v s.digs) w := ⟨HX.drop _ (by simp), by rw [(HX.blk (g := gr) (t := 138) (cs := s.cells) (by simp)).cell]; exact Srd.g_digs _⟩; refine X3w ?_; clear hK K; refine xbj [9, 17, 18, 19, 20, 21, 22, 23] 0 (by kernel_rfl) ?_; refine Xd5 ?_; intro K hK; refine Xjy ?_; intro hrk
            first
            | refine xam sl26 el24 _ _ rfl [_, _, _, _, _] _ s.keys _ hGk HX rfl ⟨g25, 0, none⟩ 1 1 b.key.c rfl hrk (D32.cl _) (D32.c1 _) (by omega) (by omega) (by omega) ?_
            | refine xam sl26 el24 _ _ rfl [_, _, _, _, _, _] _ s.keys _ hGk HX rfl ⟨g25, 0, none⟩ 1 1 b.key.c rfl hrk (D32.cl _) (D32.c1 _) (by omega) (by omega) (by omega) ?_
            clear HX HL; intro sk Gk' w hGk' HX; simp only [qm, qn] at HX; have HL : LcC W0 D [(g8, 23, D32.z.c), (g6, 24, top.c), (g5, 124, b.cells)] gr 98 (Sv.v s.digs) w := ⟨HX.drop _ (by simp), by rw [(HX.blk (g := gr) (t := 138) (cs := s.cells) (by simp)).cell]; exact Srd.g_digs _⟩; refine Xk0 ?_; clear hK K; intro K hK hrd; refine Xk1 ?_; clear HX HL; intro sd Gd' w hGd' HX; simp only [qm, qn] at HX; have HL : LcC W0 D [(g8, 23, D32.z.c), (g6, 24, top.c), (g5, 124, b.cells)] gr 98 (Sv.v s.digs) w := ⟨HX.drop _ (by simp), by rw [(HX.blk (g := gr) (t := 138) (cs := s.cells) (by simp)).cell]; exact Srd.g_digs _⟩; refine Xk2 ?_; clear hK K; intro K hK; refine xbh sc26 _ _ rfl HX 5 gr 97 138 _ ({s with keys := sk} : Srd).cells (Sv.v sk) rfl rfl rfl rfl (by rw [Srd.len]; decide) (Srd.s_keys _ _) ?_; refine Xdh ?_; clear HX HL; intro w HX
            have HL : LcC W0 D [(g8, 23, D32.z.c), (g6, 24, top.c), (g5, 124, b.cells)] gr 98 (Sv.v s.digs) w := ⟨HX.drop _ (by simp), by rw [(HX.blk (g := gr) (t := 138) (cs := ({s with keys := sk} : Srd).cells) (by simp)).cell]; exact Srd.g_digs _⟩; refine Xk4 ?_; clear hK K; intro K hK; refine xbh sc29 _ _ rfl HX 5 gr 98 138 _ ({s with keys := sk, digs := sd} : Srd).cells (Sv.v sd) rfl rfl rfl rfl (by rw [Srd.len]; decide) (Srd.s_digs _ _) ?_; refine Xk5 ?_; clear HX HL hK K; intro w HX; go_wp2_with fail; go_meet
            case rel => exact ⟨Gk', Gd', sk, sd, hGk', hGd', (HX.drop _ (sB _ _)).drop _ (sB _ _)⟩
        · intro K hK
          refine Xjz ?_; clear HX HL; intro g33 w HX; have HL : LcC W0 D [(g8, 23, D32.z.c), (g6, 24, top.c), (g5, 124, b.cells)] gr 98 (Sv.v s.digs) w := ⟨HX.drop _ (by simp), by rw [(HX.blk (g := gr) (t := 138) (cs := s.cells) (by simp)).cell]; exact Srd.g_digs _⟩; refine X3w ?_; clear hK K; refine xbj [8, 9, 17, 18, 19, 20, 21, 22, 23] 0 (by kernel_rfl) ?_; refine Xd5 ?_; intro K hK; refine Xjx ?_; clear HX HL; intro g25 w HX; have HL : LcC W0 D [(g8, 23, D32.z.c), (g6, 24, top.c), (g5, 124, b.cells)] gr 98 (Sv.v s.digs) w := ⟨HX.drop _ (by simp), by rw [(HX.blk (g := gr) (t := 138) (cs := s.cells) (by simp)).cell]; exact Srd.g_digs _⟩; refine X3x ?_; clear hK K; intro K hK; refine Xjy ?_; intro hrk
          first
          | refine xam sl26 el24 _ _ rfl [_, _, _, _, _] _ s.keys _ hGk HX rfl ⟨g25, 0, none⟩ 1 1 b.key.c rfl hrk (D32.cl _) (D32.c1 _) (by omega) (by omega) (by omega) ?_
          | refine xam sl26 el24 _ _ rfl [_, _, _, _, _, _] _ s.keys _ hGk HX rfl ⟨g25, 0, none⟩ 1 1 b.key.c rfl hrk (D32.cl _) (D32.c1 _) (by omega) (by omega) (by omega) ?_
          clear HX HL; intro sk Gk' w hGk' HX; simp only [qm, qn] at HX; have HL : LcC W0 D [(g8, 23, D32.z.c), (g6, 24, top.c), (g5, 124, b.cells)] gr 98 (Sv.v s.digs) w := ⟨HX.drop _ (by simp), by rw [(HX.blk (g := gr) (t := 138) (cs := s.cells) (by simp)).cell]; exact Srd.g_digs _⟩; refine Xk0 ?_; clear hK K; intro K hK hrd; refine Xk1 ?_; clear HX HL; intro sd Gd' w hGd' HX; simp only [qm, qn] at HX; have HL : LcC W0 D [(g8, 23, D32.z.c), (g6, 24, top.c), (g5, 124, b.cells)] gr 98 (Sv.v s.digs) w := ⟨HX.drop _ (by simp), by rw [(HX.blk (g := gr) (t := 138) (cs := s.cells) (by simp)).cell]; exact Srd.g_digs _⟩; refine Xk2 ?_; clear hK K; intro K hK; refine xbh sc26 _ _ rfl HX 5 gr 97 138 _ ({s with keys := sk} : Srd).cells (Sv.v sk) rfl rfl rfl rfl (by rw [Srd.len]; decide) (Srd.s_keys _ _) ?_; refine Xdh ?_; clear HX HL; intro w HX
          have HL : LcC W0 D [(g8, 23, D32.z.c), (g6, 24, top.c), (g5, 124, b.cells)] gr 98 (Sv.v s.digs) w := ⟨HX.drop _ (by simp), by rw [(HX.blk (g := gr) (t := 138) (cs := ({s with keys := sk} : Srd).cells) (by simp)).cell]; exact Srd.g_digs _⟩; refine Xk4 ?_; clear hK K; intro K hK; refine xbh sc29 _ _ rfl HX 5 gr 98 138 _ ({s with keys := sk, digs := sd} : Srd).cells (Sv.v sd) rfl rfl rfl rfl (by rw [Srd.len]; decide) (Srd.s_digs _ _) ?_; refine Xk5 ?_; clear HX HL hK K; intro w HX; go_wp2_with fail; go_meet
          case rel => exact ⟨Gk', Gd', sk, sd, hGk', hGd', (HX.drop _ (sB _ _)).drop _ (sB _ _)⟩
      · intro K hK
        refine Xjx ?_; clear HX HL; intro g25 w HX; have HL : LcC W0 D [(g8, 23, D32.z.c), (g6, 24, top.c), (g5, 124, b.cells)] gr 98 (Sv.v s.digs) w := ⟨HX.drop _ (by simp), by rw [(HX.blk (g := gr) (t := 138) (cs := s.cells) (by simp)).cell]; exact Srd.g_digs _⟩; refine X3w ?_; clear hK K; refine xcl [5, 16] (by kernel_rfl) ?_; refine X2 ?_; refine ⟨⟨rfl, ?_⟩, ⟨rfl, ?_⟩, trivial⟩
        · intro K hK
          refine xbs (xag sc26 HX _ rfl _ _ rfl _ _ _ (by repeat (first | exact .head _ | refine .tail _ ?_)) (Srd.g_keys _)) ?_; refine X3w ?_; clear hK K; refine xcl [9, 16] (by kernel_rfl) ?_; refine X2 ?_; refine ⟨⟨rfl, ?_⟩, ⟨rfl, ?_⟩, trivial⟩
          · intro K hK
            refine Xjy ?_; intro hrk
            first
            | refine xam sl26 el24 _ _ rfl [_, _, _, _, _] _ s.keys _ hGk HX rfl ⟨g25, 0, none⟩ 1 1 b.key.c rfl hrk (D32.cl _) (D32.c1 _) (by omega) (by omega) (by omega) ?_
            | refine xam sl26 el24 _ _ rfl [_, _, _, _, _, _] _ s.keys _ hGk HX rfl ⟨g25, 0, none⟩ 1 1 b.key.c rfl hrk (D32.cl _) (D32.c1 _) (by omega) (by omega) (by omega) ?_
            clear HX HL; intro sk Gk' w hGk' HX; simp only [qm, qn] at HX; have HL : LcC W0 D [(g8, 23, D32.z.c), (g6, 24, top.c), (g5, 124, b.cells)] gr 98 (Sv.v s.digs) w := ⟨HX.drop _ (by simp), by rw [(HX.blk (g := gr) (t := 138) (cs := s.cells) (by simp)).cell]; exact Srd.g_digs _⟩; refine X3w ?_; clear hK K; refine xbj [16, 17, 18, 19, 20, 21, 22, 23] 0 (by kernel_rfl) ?_; refine Xd5 ?_; intro K hK; refine Xjz ?_; clear HX HL; intro g33 w HX; have HL : LcC W0 D [(g8, 23, D32.z.c), (g6, 24, top.c), (g5, 124, b.cells)] gr 98 (Sv.v s.digs) w := ⟨HX.drop _ (by simp), by rw [(HX.blk (g := gr) (t := 138) (cs := s.cells) (by simp)).cell]; exact Srd.g_digs _⟩; refine Xk0 ?_; clear hK K; intro K hK hrd; refine Xk1 ?_; clear HX HL; intro sd Gd' w hGd' HX; simp only [qm, qn] at HX
            have HL : LcC W0 D [(g8, 23, D32.z.c), (g6, 24, top.c), (g5, 124, b.cells)] gr 98 (Sv.v s.digs) w := ⟨HX.drop _ (by simp), by rw [(HX.blk (g := gr) (t := 138) (cs := s.cells) (by simp)).cell]; exact Srd.g_digs _⟩; refine Xk2 ?_; clear hK K; intro K hK; refine xbh sc26 _ _ rfl HX 5 gr 97 138 _ ({s with keys := sk} : Srd).cells (Sv.v sk) rfl rfl rfl rfl (by rw [Srd.len]; decide) (Srd.s_keys _ _) ?_; refine Xdh ?_; clear HX HL; intro w HX; have HL : LcC W0 D [(g8, 23, D32.z.c), (g6, 24, top.c), (g5, 124, b.cells)] gr 98 (Sv.v s.digs) w := ⟨HX.drop _ (by simp), by rw [(HX.blk (g := gr) (t := 138) (cs := ({s with keys := sk} : Srd).cells) (by simp)).cell]; exact Srd.g_digs _⟩; refine Xk4 ?_; clear hK K; intro K hK; refine xbh sc29 _ _ rfl HX 5 gr 98 138 _ ({s with keys := sk, digs := sd} : Srd).cells (Sv.v sd) rfl rfl rfl rfl (by rw [Srd.len]; decide) (Srd.s_digs _ _) ?_
            refine Xk5 ?_; clear HX HL hK K; intro w HX; go_wp2_with fail; go_meet
            case rel => exact ⟨Gk', Gd', sk, sd, hGk', hGd', (HX.drop _ (sB _ _)).drop _ (sB _ _)⟩
          · intro K hK
            refine Xjz ?_; clear HX HL; intro g33 w HX; have HL : LcC W0 D [(g8, 23, D32.z.c), (g6, 24, top.c), (g5, 124, b.cells)] gr 98 (Sv.v s.digs) w := ⟨HX.drop _ (by simp), by rw [(HX.blk (g := gr) (t := 138) (cs := s.cells) (by simp)).cell]; exact Srd.g_digs _⟩; refine X3w ?_; clear hK K; refine xbj [9, 17, 18, 19, 20, 21, 22, 23] 0 (by kernel_rfl) ?_; refine Xd5 ?_; intro K hK; refine Xjy ?_; intro hrk
            first
            | refine xam sl26 el24 _ _ rfl [_, _, _, _, _] _ s.keys _ hGk HX rfl ⟨g25, 0, none⟩ 1 1 b.key.c rfl hrk (D32.cl _) (D32.c1 _) (by omega) (by omega) (by omega) ?_
            | refine xam sl26 el24 _ _ rfl [_, _, _, _, _, _] _ s.keys _ hGk HX rfl ⟨g25, 0, none⟩ 1 1 b.key.c rfl hrk (D32.cl _) (D32.c1 _) (by omega) (by omega) (by omega) ?_
            clear HX HL; intro sk Gk' w hGk' HX; simp only [qm, qn] at HX; have HL : LcC W0 D [(g8, 23, D32.z.c), (g6, 24, top.c), (g5, 124, b.cells)] gr 98 (Sv.v s.digs) w := ⟨HX.drop _ (by simp), by rw [(HX.blk (g := gr) (t := 138) (cs := s.cells) (by simp)).cell]; exact Srd.g_digs _⟩; refine Xk0 ?_; clear hK K; intro K hK hrd; refine Xk1 ?_; clear HX HL; intro sd Gd' w hGd' HX; simp only [qm, qn] at HX; have HL : LcC W0 D [(g8, 23, D32.z.c), (g6, 24, top.c), (g5, 124, b.cells)] gr 98 (Sv.v s.digs) w := ⟨HX.drop _ (by simp), by rw [(HX.blk (g := gr) (t := 138) (cs := s.cells) (by simp)).cell]; exact Srd.g_digs _⟩; refine Xk2 ?_; clear hK K; intro K hK; refine xbh sc26 _ _ rfl HX 5 gr 97 138 _ ({s with keys := sk} : Srd).cells (Sv.v sk) rfl rfl rfl rfl (by rw [Srd.len]; decide) (Srd.s_keys _ _) ?_; refine Xdh ?_; clear HX HL; intro w HX
            have HL : LcC W0 D [(g8, 23, D32.z.c), (g6, 24, top.c), (g5, 124, b.cells)] gr 98 (Sv.v s.digs) w := ⟨HX.drop _ (by simp), by rw [(HX.blk (g := gr) (t := 138) (cs := ({s with keys := sk} : Srd).cells) (by simp)).cell]; exact Srd.g_digs _⟩; refine Xk4 ?_; clear hK K; intro K hK; refine xbh sc29 _ _ rfl HX 5 gr 98 138 _ ({s with keys := sk, digs := sd} : Srd).cells (Sv.v sd) rfl rfl rfl rfl (by rw [Srd.len]; decide) (Srd.s_digs _ _) ?_; refine Xk5 ?_; clear HX HL hK K; intro w HX; go_wp2_with fail; go_meet
            case rel => exact ⟨Gk', Gd', sk, sd, hGk', hGd', (HX.drop _ (sB _ _)).drop _ (sB _ _)⟩
        · intro K hK
          refine Xjz ?_; clear HX HL; intro g33 w HX; have HL : LcC W0 D [(g8, 23, D32.z.c), (g6, 24, top.c), (g5, 124, b.cells)] gr 98 (Sv.v s.digs) w := ⟨HX.drop _ (by simp), by rw [(HX.blk (g := gr) (t := 138) (cs := s.cells) (by simp)).cell]; exact Srd.g_digs _⟩; refine X3w ?_; clear hK K; refine xbj [5, 9, 17, 18, 19, 20, 21, 22, 23] 0 (by kernel_rfl) ?_; refine Xd5 ?_; intro K hK; refine xbs (xag sc26 HX _ rfl _ _ rfl _ _ _ (by repeat (first | exact .head _ | refine .tail _ ?_)) (Srd.g_keys _)) ?_; refine X3x ?_; clear hK K; intro K hK; refine Xjy ?_; intro hrk
          first
          | refine xam sl26 el24 _ _ rfl [_, _, _, _, _] _ s.keys _ hGk HX rfl ⟨g25, 0, none⟩ 1 1 b.key.c rfl hrk (D32.cl _) (D32.c1 _) (by omega) (by omega) (by omega) ?_
          | refine xam sl26 el24 _ _ rfl [_, _, _, _, _, _] _ s.keys _ hGk HX rfl ⟨g25, 0, none⟩ 1 1 b.key.c rfl hrk (D32.cl _) (D32.c1 _) (by omega) (by omega) (by omega) ?_
          clear HX HL; intro sk Gk' w hGk' HX; simp only [qm, qn] at HX; have HL : LcC W0 D [(g8, 23, D32.z.c), (g6, 24, top.c), (g5, 124, b.cells)] gr 98 (Sv.v s.digs) w := ⟨HX.drop _ (by simp), by rw [(HX.blk (g := gr) (t := 138) (cs := s.cells) (by simp)).cell]; exact Srd.g_digs _⟩; refine Xk0 ?_; clear hK K; intro K hK hrd; refine Xk1 ?_; clear HX HL; intro sd Gd' w hGd' HX; simp only [qm, qn] at HX; have HL : LcC W0 D [(g8, 23, D32.z.c), (g6, 24, top.c), (g5, 124, b.cells)] gr 98 (Sv.v s.digs) w := ⟨HX.drop _ (by simp), by rw [(HX.blk (g := gr) (t := 138) (cs := s.cells) (by simp)).cell]; exact Srd.g_digs _⟩; refine Xk2 ?_; clear hK K; intro K hK; refine xbh sc26 _ _ rfl HX 5 gr 97 138 _ ({s with keys := sk} : Srd).cells (Sv.v sk) rfl rfl rfl rfl (by rw [Srd.len]; decide) (Srd.s_keys _ _) ?_; refine Xdh ?_; clear HX HL; intro w HX
          have HL : LcC W0 D [(g8, 23, D32.z.c), (g6, 24, top.c), (g5, 124, b.cells)] gr 98 (Sv.v s.digs) w := ⟨HX.drop _ (by simp), by rw [(HX.blk (g := gr) (t := 138) (cs := ({s with keys := sk} : Srd).cells) (by simp)).cell]; exact Srd.g_digs _⟩; refine Xk4 ?_; clear hK K; intro K hK; refine xbh sc29 _ _ rfl HX 5 gr 98 138 _ ({s with keys := sk, digs := sd} : Srd).cells (Sv.v sd) rfl rfl rfl rfl (by rw [Srd.len]; decide) (Srd.s_digs _ _) ?_; refine Xk5 ?_; clear HX HL hK K; intro w HX; go_wp2_with fail; go_meet
          case rel => exact ⟨Gk', Gd', sk, sd, hGk', hGd', (HX.drop _ (sB _ _)).drop _ (sB _ _)⟩
      · intro K hK
        refine Xjz ?_; clear HX HL; intro g33 w HX; have HL : LcC W0 D [(g8, 23, D32.z.c), (g6, 24, top.c), (g5, 124, b.cells)] gr 98 (Sv.v s.digs) w := ⟨HX.drop _ (by simp), by rw [(HX.blk (g := gr) (t := 138) (cs := s.cells) (by simp)).cell]; exact Srd.g_digs _⟩; refine X3w ?_; clear hK K; refine xcl [5, 8] (by kernel_rfl) ?_; refine X2 ?_; refine ⟨⟨rfl, ?_⟩, ⟨rfl, ?_⟩, trivial⟩
        · intro K hK
          refine xbs (xag sc26 HX _ rfl _ _ rfl _ _ _ (by repeat (first | exact .head _ | refine .tail _ ?_)) (Srd.g_keys _)) ?_; refine X3w ?_; clear hK K; refine xbj [8, 9, 17, 18, 19, 20, 21, 22, 23] 0 (by kernel_rfl) ?_; refine Xd5 ?_; intro K hK; refine Xjx ?_; clear HX HL; intro g25 w HX; have HL : LcC W0 D [(g8, 23, D32.z.c), (g6, 24, top.c), (g5, 124, b.cells)] gr 98 (Sv.v s.digs) w := ⟨HX.drop _ (by simp), by rw [(HX.blk (g := gr) (t := 138) (cs := s.cells) (by simp)).cell]; exact Srd.g_digs _⟩; refine X3x ?_; clear hK K; intro K hK; refine Xjy ?_; intro hrk
          first
          | refine xam sl26 el24 _ _ rfl [_, _, _, _, _] _ s.keys _ hGk HX rfl ⟨g25, 0, none⟩ 1 1 b.key.c rfl hrk (D32.cl _) (D32.c1 _) (by omega) (by omega) (by omega) ?_
          | refine xam sl26 el24 _ _ rfl [_, _, _, _, _, _] _ s.keys _ hGk HX rfl ⟨g25, 0, none⟩ 1 1 b.key.c rfl hrk (D32.cl _) (D32.c1 _) (by omega) (by omega) (by omega) ?_
          clear HX HL; intro sk Gk' w hGk' HX; simp only [qm, qn] at HX; have HL : LcC W0 D [(g8, 23, D32.z.c), (g6, 24, top.c), (g5, 124, b.cells)] gr 98 (Sv.v s.digs) w := ⟨HX.drop _ (by simp), by rw [(HX.blk (g := gr) (t := 138) (cs := s.cells) (by simp)).cell]; exact Srd.g_digs _⟩; refine Xk0 ?_; clear hK K; intro K hK hrd; refine Xk1 ?_; clear HX HL; intro sd Gd' w hGd' HX; simp only [qm, qn] at HX; have HL : LcC W0 D [(g8, 23, D32.z.c), (g6, 24, top.c), (g5, 124, b.cells)] gr 98 (Sv.v s.digs) w := ⟨HX.drop _ (by simp), by rw [(HX.blk (g := gr) (t := 138) (cs := s.cells) (by simp)).cell]; exact Srd.g_digs _⟩; refine Xk2 ?_; clear hK K; intro K hK; refine xbh sc26 _ _ rfl HX 5 gr 97 138 _ ({s with keys := sk} : Srd).cells (Sv.v sk) rfl rfl rfl rfl (by rw [Srd.len]; decide) (Srd.s_keys _ _) ?_; refine Xdh ?_; clear HX HL; intro w HX
          have HL : LcC W0 D [(g8, 23, D32.z.c), (g6, 24, top.c), (g5, 124, b.cells)] gr 98 (Sv.v s.digs) w := ⟨HX.drop _ (by simp), by rw [(HX.blk (g := gr) (t := 138) (cs := ({s with keys := sk} : Srd).cells) (by simp)).cell]; exact Srd.g_digs _⟩; refine Xk4 ?_; clear hK K; intro K hK; refine xbh sc29 _ _ rfl HX 5 gr 98 138 _ ({s with keys := sk, digs := sd} : Srd).cells (Sv.v sd) rfl rfl rfl rfl (by rw [Srd.len]; decide) (Srd.s_digs _ _) ?_; refine Xk5 ?_; clear HX HL hK K; intro w HX; go_wp2_with fail; go_meet
          case rel => exact ⟨Gk', Gd', sk, sd, hGk', hGd', (HX.drop _ (sB _ _)).drop _ (sB _ _)⟩
        · intro K hK
          refine Xjx ?_; clear HX HL; intro g25 w HX; have HL : LcC W0 D [(g8, 23, D32.z.c), (g6, 24, top.c), (g5, 124, b.cells)] gr 98 (Sv.v s.digs) w := ⟨HX.drop _ (by simp), by rw [(HX.blk (g := gr) (t := 138) (cs := s.cells) (by simp)).cell]; exact Srd.g_digs _⟩; refine X3w ?_; clear hK K; refine xbj [5, 9, 17, 18, 19, 20, 21, 22, 23] 0 (by kernel_rfl) ?_; refine Xd5 ?_; intro K hK; refine xbs (xag sc26 HX _ rfl _ _ rfl _ _ _ (by repeat (first | exact .head _ | refine .tail _ ?_)) (Srd.g_keys _)) ?_; refine X3x ?_; clear hK K; intro K hK; refine Xjy ?_; intro hrk
          first
          | refine xam sl26 el24 _ _ rfl [_, _, _, _, _] _ s.keys _ hGk HX rfl ⟨g25, 0, none⟩ 1 1 b.key.c rfl hrk (D32.cl _) (D32.c1 _) (by omega) (by omega) (by omega) ?_
          | refine xam sl26 el24 _ _ rfl [_, _, _, _, _, _] _ s.keys _ hGk HX rfl ⟨g25, 0, none⟩ 1 1 b.key.c rfl hrk (D32.cl _) (D32.c1 _) (by omega) (by omega) (by omega) ?_
          clear HX HL; intro sk Gk' w hGk' HX; simp only [qm, qn] at HX; have HL : LcC W0 D [(g8, 23, D32.z.c), (g6, 24, top.c), (g5, 124, b.cells)] gr 98 (Sv.v s.digs) w := ⟨HX.drop _ (by simp), by rw [(HX.blk (g := gr) (t := 138) (cs := s.cells) (by simp)).cell]; exact Srd.g_digs _⟩; refine Xk0 ?_; clear hK K; intro K hK hrd; refine Xk1 ?_; clear HX HL; intro sd Gd' w hGd' HX; simp only [qm, qn] at HX; have HL : LcC W0 D [(g8, 23, D32.z.c), (g6, 24, top.c), (g5, 124, b.cells)] gr 98 (Sv.v s.digs) w := ⟨HX.drop _ (by simp), by rw [(HX.blk (g := gr) (t := 138) (cs := s.cells) (by simp)).cell]; exact Srd.g_digs _⟩; refine Xk2 ?_; clear hK K; intro K hK; refine xbh sc26 _ _ rfl HX 5 gr 97 138 _ ({s with keys := sk} : Srd).cells (Sv.v sk) rfl rfl rfl rfl (by rw [Srd.len]; decide) (Srd.s_keys _ _) ?_; refine Xdh ?_; clear HX HL; intro w HX
          have HL : LcC W0 D [(g8, 23, D32.z.c), (g6, 24, top.c), (g5, 124, b.cells)] gr 98 (Sv.v s.digs) w := ⟨HX.drop _ (by simp), by rw [(HX.blk (g := gr) (t := 138) (cs := ({s with keys := sk} : Srd).cells) (by simp)).cell]; exact Srd.g_digs _⟩; refine Xk4 ?_; clear hK K; intro K hK; refine xbh sc29 _ _ rfl HX 5 gr 98 138 _ ({s with keys := sk, digs := sd} : Srd).cells (Sv.v sd) rfl rfl rfl rfl (by rw [Srd.len]; decide) (Srd.s_digs _ _) ?_; refine Xk5 ?_; clear HX HL hK K; intro w HX; go_wp2_with fail; go_meet
          case rel => exact ⟨Gk', Gd', sk, sd, hGk', hGd', (HX.drop _ (sB _ _)).drop _ (sB _ _)⟩
    case rest =>
      clear HL hGk hGd; obtain ⟨Gk', Gd', sk, sd, hGk, hGd, HL⟩ := hcut; obtain ⟨w, rfl⟩ := eW wc; go_upto_region 3 with fail; refine X5f ?_; refine X3b ?_; intro HL; refine Xk6 ?_; refine X5 ?_; refine Xk7 ?_; refine X5 ?_; refine X61 ?_; refine Xb7 ?_; intro K hK; refine Xir ?_; refine X4c ?_; intro w HL; refine X5i ?_; clear hK K; refine Xd ?_
      cases un with
      | true =>
        go_upto_region 4 with fail; refine X14 ?_; refine Xil ?_; refine X5 ?_; refine Xk8 ?_; refine X5 ?_; refine Xin ?_; refine X5 ?_; refine Xk9 ?_; refine X5 ?_; refine X81 ?_; refine X18 ?_; refine Xka ?_; refine X5 ?_; refine xaa rfl _ (xcr xjx _ rfl _ _ rfl) ?_; refine X5 ?_; refine xea ag32 rfl _ _ rfl HL 3 gr 132 138 _ (⟨1, b.key, b.val, D32.z, D32.z⟩ : Nod).cells ((({s with keys := sk, digs := sd} : Srd)).setN ⟨1, b.key, b.val, D32.z, D32.z⟩).cells rfl rfl rfl (Nod.len _) (by rw [Srd.len]; decide) (Nod.one _) (Srd.s_nod _ _) ?_; refine X2y ?_; clear HL; intro w HL; obtain ⟨HX, hb8, hn8, hne8⟩ := HL.out (L0 := []); clear HL; have HL := HX; clear HX; simp only [qn] at HL hne8; go_upto_region 5 with fail; refine Xkb ?_; refine X37 ?_; intro HL; refine Xkc ?_; refine Xgy ?_; refine X5 ?_; refine Xkd ?_; refine X5 ?_; refine Xkc ?_; refine X6l ?_
        refine Xb7 ?_; intro K hK; refine Xip ?_; refine X4b ?_; intro w hb HL; replace hb8 := hb8.drew.below hb hb8.lt; have h8s := hb8.lt; clear hb; refine X6m ?_; clear hK K; intro K hK; refine Xch ?_; refine Xaw ?_; refine X4b ?_; intro w hb HL; replace hb8 := hb8.below hb hb8.lt; clear hb; refine X6m ?_; clear hK K; intro K hK; refine xav ag23.i _ _ rfl g8 0 23 _ _ rfl rfl hb8 (D32.cl _) (by rw [D32.cl]; decide) (D32.c1 _) ?_; intro w' hb' hg' _; replace HL := HL.aside hg' hn8 hne8; replace hb8 := xei hb'; refine Xa0 ?_; clear hK K; go_wp2_with fail; refine Xf ?_; refine Xke ?_; refine ⟨((({s with keys := sk, digs := sd} : Srd)).setN ⟨1, b.key, b.val, D32.z, D32.z⟩), Gk', Gd', by rw [HUB.out]; rfl, ?_, ?_, rfl, rfl, rfl, rfl, rfl, rfl, ?_, HL.drop _ (sA [_, _] _)⟩
        · rw [HHI.out]; show Gw 24 32 _ sk _ _; simpa [List.flatMap_append] using hGk
        · rw [HHI.out]; show Gw 23 32 _ sd _ _; simpa [List.flatMap_append] using hGd
        · rw [HUN.out]; rfl
      | false =>
        skip
        obtain ⟨HX, hb8, hn8, hne8⟩ := HL.out (L0 := []); clear HL; have HL := HX; clear HX; simp only [qn] at HL hne8; go_upto_region 5 with fail; refine Xkb ?_; refine X37 ?_; intro HL; refine Xkc ?_; refine Xgy ?_; refine X5 ?_; refine Xkd ?_; refine X5 ?_; refine Xkc ?_; refine X6l ?_; refine Xb7 ?_; intro K hK; refine Xip ?_; refine X4b ?_; intro w hb HL; replace hb8 := hb8.drew.below hb hb8.lt; have h8s := hb8.lt; clear hb; refine X6m ?_; clear hK K; intro K hK; refine Xch ?_; refine Xaw ?_; refine X4b ?_; intro w hb HL; replace hb8 := hb8.below hb hb8.lt; clear hb; refine X6m ?_; clear hK K; intro K hK; refine xav ag23.i _ _ rfl g8 0 23 _ _ rfl rfl hb8 (D32.cl _) (by rw [D32.cl]; decide) (D32.c1 _) ?_; intro w' hb' hg' _; replace HL := HL.aside hg' hn8 hne8; replace hb8 := xei hb'; refine Xa0 ?_; clear hK K; go_wp2_with fail; refine Xf ?_; refine Xke ?_
        refine ⟨({s with keys := sk, digs := sd} : Srd), Gk', Gd', by rw [HUB.out]; rfl, ?_, ?_, rfl, rfl, rfl, rfl, rfl, rfl, ?_, HL.drop _ (sA [_, _] _)⟩
        · rw [HHI.out]; show Gw 24 32 _ sk _ _; simpa [List.flatMap_append] using hGk
        · rw [HHI.out]; show Gw 23 32 _ sd _ _; simpa [List.flatMap_append] using hGd
        · rw [HUN.out]; rfl
  | false =>
    go_upto_region 3 with fail; refine X5f ?_; refine X3b ?_; intro HL; refine Xk6 ?_; refine X5 ?_; refine Xk7 ?_; refine X5 ?_; refine X61 ?_; refine Xb7 ?_; intro K hK; refine Xir ?_; refine X4c ?_; intro w HL; refine X5i ?_; clear hK K; refine Xd ?_
    cases un with
    | true =>
      go_upto_region 4 with fail; refine X14 ?_; refine Xil ?_; refine X5 ?_; refine Xk8 ?_; refine X5 ?_; refine Xin ?_; refine X5 ?_; refine Xk9 ?_; refine X5 ?_; refine X81 ?_; refine X18 ?_; refine Xka ?_; refine X5 ?_; refine xaa rfl _ (xcr xjx _ rfl _ _ rfl) ?_; refine X5 ?_; refine xea ag32 rfl _ _ rfl HL 3 gr 132 138 _ (⟨1, b.key, b.val, D32.z, D32.z⟩ : Nod).cells ((s).setN ⟨1, b.key, b.val, D32.z, D32.z⟩).cells rfl rfl rfl (Nod.len _) (by rw [Srd.len]; decide) (Nod.one _) (Srd.s_nod _ _) ?_; refine X2y ?_; clear HL; intro w HL; obtain ⟨HX, hb8, hn8, hne8⟩ := HL.out (L0 := []); clear HL; have HL := HX; clear HX; simp only [qn] at HL hne8; go_upto_region 5 with fail; refine Xkb ?_; refine X37 ?_; intro HL; refine Xkc ?_; refine Xgy ?_; refine X5 ?_; refine Xkd ?_; refine X5 ?_; refine Xkc ?_; refine X6l ?_; refine Xb7 ?_; intro K hK; refine Xip ?_
      refine X4b ?_; intro w hb HL; replace hb8 := hb8.drew.below hb hb8.lt; have h8s := hb8.lt; clear hb; refine X6m ?_; clear hK K; intro K hK; refine Xch ?_; refine Xaw ?_; refine X4b ?_; intro w hb HL; replace hb8 := hb8.below hb hb8.lt; clear hb; refine X6m ?_; clear hK K; intro K hK; refine xav ag23.i _ _ rfl g8 0 23 _ _ rfl rfl hb8 (D32.cl _) (by rw [D32.cl]; decide) (D32.c1 _) ?_; intro w' hb' hg' _; replace HL := HL.aside hg' hn8 hne8; replace hb8 := xei hb'; refine Xa0 ?_; clear hK K; go_wp2_with fail; refine Xf ?_; refine Xke ?_; refine ⟨((s).setN ⟨1, b.key, b.val, D32.z, D32.z⟩), Gk, Gd, by rw [HUB.out]; rfl, ?_, ?_, rfl, rfl, rfl, rfl, rfl, rfl, ?_, HL.drop _ (sA [_, _] _)⟩
      · rw [HHI.out]; show Gw 24 32 _ s.keys _ _; simpa using hGk
      · rw [HHI.out]; show Gw 23 32 _ s.digs _ _; simpa using hGd
      · rw [HUN.out]; rfl
    | false =>
      skip
      obtain ⟨HX, hb8, hn8, hne8⟩ := HL.out (L0 := []); clear HL; have HL := HX; clear HX; simp only [qn] at HL hne8; go_upto_region 5 with fail; refine Xkb ?_; refine X37 ?_; intro HL; refine Xkc ?_; refine Xgy ?_; refine X5 ?_; refine Xkd ?_; refine X5 ?_; refine Xkc ?_; refine X6l ?_; refine Xb7 ?_; intro K hK; refine Xip ?_; refine X4b ?_; intro w hb HL; replace hb8 := hb8.drew.below hb hb8.lt; have h8s := hb8.lt; clear hb; refine X6m ?_; clear hK K; intro K hK; refine Xch ?_; refine Xaw ?_; refine X4b ?_; intro w hb HL; replace hb8 := hb8.below hb hb8.lt; clear hb; refine X6m ?_; clear hK K; intro K hK; refine xav ag23.i _ _ rfl g8 0 23 _ _ rfl rfl hb8 (D32.cl _) (by rw [D32.cl]; decide) (D32.c1 _) ?_; intro w' hb' hg' _; replace HL := HL.aside hg' hn8 hne8; replace hb8 := xei hb'; refine Xa0 ?_; clear hK K; go_wp2_with fail; refine Xf ?_; refine Xke ?_
      refine ⟨s, Gk, Gd, by rw [HUB.out]; rfl, ?_, ?_, rfl, rfl, rfl, rfl, rfl, rfl, ?_, HL.drop _ (sA [_, _] _)⟩
      · rw [HHI.out]; show Gw 24 32 _ s.keys _ _; simpa using hGk
      · rw [HHI.out]; show Gw 23 32 _ s.digs _ _; simpa using hGd
      · rw [HUN.out]; rfl
end
structure SpS (fr til key : D32) (s : Srd) (Gk Gd Gs : List (Nat × Nat × List Value)) (KL VL SL : List D32) : Prop where
  k : Gw 24 32 Gk s.keys KL.length (KL.flatMap D32.c)
  v : Gw 23 32 Gd s.digs VL.length (VL.flatMap D32.c)
  sd : Gw 23 32 Gs s.sides SL.length (SL.flatMap D32.c)
  fr : s.fr = fr
  til : s.til = til
  key : s.key = key
  emp : s.emp = tagE
structure SpB (M n : Nat) (KL VL SL : List D32) : Prop where
  k : KL.length + n ≤ M
  v : VL.length + n ≤ M
  s : SL.length + n ≤ M
def finD (n : Nod) : Option (D32 × D32) → Nod
  | none => n
  | some e => ⟨1, e.1, e.2, D32.z, D32.z⟩
theorem finD_or (n : Nod) (a c : Option (D32 × D32)) : finD (finD n a) c = finD n (c.or a) := by
  cases c <;> rfl
def PsR (q : Option SpD) (KL VL SL : List D32) (nod0 : Nod) (h : D32) (ok : Bool) (bs' : List Brv) (KL' VL' SL' : List D32) (nod' : Nod) : Prop :=
  (ok = true ∧ ∃ r, q = some r ∧ h = r.dig ∧ bs' = r.rest ∧ KL' = KL ++ r.ents.map Prod.fst ∧ VL' = VL ++ r.ents.map Prod.snd ∧ SL' = SL ++ r.sides ∧ nod' = finD nod0 r.fin) ∨ (ok = false ∧ q = none)
def PsO (W0 : World) (D : Nat → Prop) (X : List (Nat × Nat × List Value)) (gr : Nat) (fr til key : D32) (KL VL SL : List D32) (n : Nat) (nod0 : Nod) (q : Option SpD) (e : Ending) (w' : World) : Prop :=
  ∃ (h : D32) (ok : Bool) (s' : Srd) (bs' : List Brv) (KL' VL' SL' : List D32) (Gk' Gd' Gs' : List (Nat × Nat × List Value)), e = .returned (.tuple #[h.a, .bool ok]) ∧ BrD D W0 s'.rest bs' ∧ bs'.length ≤ n ∧ SpS fr til key s' Gk' Gd' Gs' KL' VL' SL' ∧
    KL'.length ≤ KL.length + (n - bs'.length) ∧ VL'.length ≤ VL.length + (n - bs'.length) ∧ SL'.length ≤ SL.length + (n - bs'.length) ∧ Loc W0 D (SX gr s' Gk' Gd' Gs' X) w' ∧ PsR q KL VL SL nod0 h ok bs' KL' VL' SL' s'.nod
theorem PsR.bare {r : SpD} {KL VL SL : List D32} {nod0 : Nod} (h1 : r.ents = []) (h2 : r.sides = []) (h3 : r.fin = none) : PsR (some r) KL VL SL nod0 r.dig true r.rest KL VL SL nod0 :=
  .inl ⟨rfl, r, rfl, rfl, rfl, by simp [h1], by simp [h1], by simp [h2], by rw [h3]; rfl⟩
theorem PsR.leaf {q : Option SpD} {KL VL SL : List D32} {nod0 : Nod} {h k v : D32} {bs : List Brv} {un hi uk : Bool}
    (hq : q = if un = true then some ⟨h, bs, if hi = true then [(k, v)] else [], [], if uk = true then some (k, v) else none⟩ else none) :
    PsR q KL VL SL nod0 h un bs (KL ++ if hi = true then [k] else []) (VL ++ if hi = true then [v] else []) SL (if uk = true then ⟨1, k, v, D32.z, D32.z⟩ else nod0) := by
  subst hq
  cases un with
  | false => exact .inr ⟨rfl, rfl⟩
  | true => exact .inl ⟨rfl, _, rfl, rfl, rfl, by cases hi <;> rfl, by cases hi <;> rfl, by simp, by cases uk <;> rfl⟩
theorem PsR.bad1 {q q1 : Option SpD} {KL VL SL KL' VL' SL' : List D32} {nod0 nod' : Nod} {h h' : D32} {bs' : List Brv} (h1 : PsR q1 KL VL SL nod0 h false bs' KL' VL' SL' nod') (hq : q1 = none → q = none) {KL2 VL2 SL2 : List D32} {n2 : Nod} {b2 : List Brv} : PsR q KL VL SL nod0 h' false b2 KL2 VL2 SL2 n2 := by
  rcases h1 with ⟨h1, _⟩ | ⟨_, h1⟩
  · cases h1
  · exact .inr ⟨rfl, hq h1⟩
theorem PsR.inner {fr til key : D32} {N : Nat} {b : Brv} {bs bs2 bs3 : List Brv} {top : D32} {d : Nat} (hc : xa9 b = true) (hk : b.kind = 2) (ht : tchB fr.l til.l top.l d = true)
    {KL VL SL KL2 VL2 SL2 KL3 VL3 SL3 : List D32} {n0 n2 n3 : Nod} {l r : D32} {ok : Bool}
    (h1 : PsR (plS fr til key N bs top (d + 1)) KL VL SL n0 l true bs2 KL2 VL2 SL2 n2)
    (h2 : PsR (plS fr til key N bs2 (xdm top d) (d + 1)) KL2 VL2 SL2 n2 r ok bs3 KL3 VL3 SL3 n3) :
    PsR (plS fr til key (N + 1) (b :: bs) top d) KL VL SL n0 (tagI l r) ok bs3 KL3 VL3 (SL3 ++ if xa1 key.l top.l d = true then [if tb key.l d = true then l else r] else []) n3 := by
  obtain ⟨hq0, hq1, hq2⟩ := xf7 fr til key N b bs top d hc hk ht; rcases h1 with ⟨_, a, ha, rfl, rfl, rfl, rfl, rfl, rfl⟩ | ⟨h1, _⟩
  · rcases h2 with ⟨rfl, c, hc', rfl, rfl, rfl, rfl, rfl, rfl⟩ | ⟨rfl, h2⟩
    · refine .inl ⟨rfl, _, hq2 a c ha hc', rfl, rfl, ?_, ?_, ?_, ?_⟩
      · simp
      · simp
      · simp
      · exact finD_or _ _ _
    · exact .inr ⟨rfl, hq1 a ha h2⟩
  · cases h1
section
variable {W0 w : World} {D : Nat → Prop} {gr : Nat} {s : Srd} {Gk Gd Gs X : List (Nat × Nat × List Value)}
theorem Loc.inS (locs : List (Nat × Nat × List Value)) (H : Loc W0 D (locs ++ SX gr s Gk Gd Gs X) w) : Loc W0 D (SX gr s Gk Gd Gs (X ++ locs)) w := H.perm (by
  have := (List.perm_append_comm (l₁ := SX gr s Gk Gd Gs X) (l₂ := locs))
  simpa [List.append_assoc] using this)
theorem Loc.outS (locs : List (Nat × Nat × List Value)) (H : Loc W0 D (SX gr s Gk Gd Gs (X ++ locs)) w) : Loc W0 D (locs ++ SX gr s Gk Gd Gs X) w := H.perm (by
  have := (List.perm_append_comm (l₁ := locs) (l₂ := SX gr s Gk Gd Gs X))
  simpa [List.append_assoc] using this)
end
section
variable {w w' : World}
theorem xhu (W0 : World) (D : Nat → Prop) (fr til key : D32) (gr : Nat) (N : Nat) (d : Nat) (X : List (Nat × Nat × List Value)) (s : Srd) (Gk Gd Gs : List (Nat × Nat × List Value)) (KL VL SL : List D32) (top : D32) (w : World) (hB : BrD D W0 s.rest []) (hS : SpS fr til key s Gk Gd Gs KL VL SL)
    (H : Loc W0 D (SX gr s Gk Gd Gs X) w) :
    Calls Tryz.prog 113 #[.pointer (some ⟨gr, 0, none⟩), top.a, .int .i64 (d : Int)] w (PsO W0 D X gr fr til key KL VL SL 0 s.nod (plS fr til key N [] top d)) := by
  have HRN := hZ hB.s.len; have k1 : ((s.rest.n : Int) == 0) = true := by rw [← HRN.out]; rfl
  have hq : plS fr til key N [] top d = none := by cases N <;> rfl
  rw [hq]; clear hq; have HL := H; clear H; go_enter Tryz.func113, Tryz.ntmps113; go_upto_region 0 with fail; refine Xkf ?_; clear HL; intro g4 g6 w HL; go_upto_region 1 with fail; refine Xkh ?_; refine Xgf ?_; refine Xfy ?_; refine X2j ?_; refine X2b ?_; go_upto_region 2 with fail; refine Xi2 ?_; refine X93 ?_; clear HL; intro w HL; go_wp2_with fail; refine Xki ?_; exact ⟨D32.z, false, s, [], KL, VL, SL, Gk, Gd, Gs, rfl, hB, Nat.le_refl _, hS, by omega, by omega, by omega, HL.drop _ (sA [_, _] _), .inr ⟨rfl, rfl⟩⟩
theorem xhv (W0 : World) (D : Nat → Prop) (fr til key : D32) (gr : Nat) (N : Nat) (d : Nat) (X : List (Nat × Nat × List Value)) (s : Srd) (b : Brv) (bs : List Brv) (Gk Gd Gs : List (Nat × Nat × List Value)) (KL VL SL : List D32) (top : D32) (w : World) (hd : d ≤ 256) (hB : BrD D W0 s.rest (b :: bs)) (hS : SpS fr til key s Gk Gd Gs KL VL SL) (hM : SpB 200000 (b :: bs).length KL VL SL)
    (H : Loc W0 D (SX gr s Gk Gd Gs X) w) (hflat : xa9 b = false ∨ b.kind ≠ 2 ∨ tchB fr.l til.l top.l d = false ∨ N = 0) (hdN : d + N = 256) :
    Calls Tryz.prog 113 #[.pointer (some ⟨gr, 0, none⟩), top.a, .int .i64 (d : Int)] w (PsO W0 D X gr fr til key KL VL SL (b :: bs).length s.nod (plS fr til key N (b :: bs) top d)) := by
  have hr0 : 1 ≤ s.rest.n := by have := hB.s.len; simp only [qr] at this; omega
  have k1 : ((s.rest.n : Int) == 0) = false := nB (by omega); obtain ⟨ad, hA, _⟩ := hB.s.at_ 0 (by simp); have HSV : Hid (s.rest.v = .slice (some ad) s.rest.n s.rest.c) := hZ (by unfold Sv.v; rw [hA])
  have hbrd : ∀ (L : List (Nat × Nat × List Value)) (W : World), Loc W0 D L W → Rd W (some (ad.add (0 * 97))) b.cells := by
    intro L W hW; obtain ⟨ad', e', h'⟩ := (hB.at hW).at_ 0 (by simp); rw [hA] at e'; cases e'; exact h'
  obtain ⟨tch, htch⟩ : ∃ t, tchB fr.l til.l top.l d = t := ⟨_, rfl⟩
  obtain ⟨s1, hs1, hS1, hT1, hn1⟩ : ∃ s1 : Srd, s.cells.set 64 (Sv.v ⟨cutA s.rest.A s.rest.c 1 97, s.rest.n - 1, s.rest.c - 1⟩) = s1.cells ∧ SpS fr til key s1 Gk Gd Gs KL VL SL ∧ BrD D W0 s1.rest bs ∧ s1.nod = s.nod :=
    ⟨{s with rest := ⟨cutA s.rest.A s.rest.c 1 97, s.rest.n - 1, s.rest.c - 1⟩}, Srd.s_rest _ _, ⟨hS.k, hS.v, hS.sd, hS.fr, hS.til, hS.key, hS.emp⟩, hB.tail, rfl⟩
  have HS1 := hZ hs1; have HN1 := hZ hn1; clear hs1 hn1
  have CT : ∀ u : World, Hid (Calls Tryz.prog 171 #[.agg s1.str.cells.toArray, top.a, .int .i64 (d : Int)] u fun e w' => e = .returned (.bool tch) ∧ Below u.heap.size u w') := fun u => hZ (by
    have h := xi0 s1.str top d hd u; have e : tchB s1.str.fr.l s1.str.til.l top.l d = tch := by rw [← htch]; show tchB s1.fr.l s1.til.l top.l d = _; rw [hS1.fr, hS1.til]
    rw [e] at h
    exact h)
  have CC := fun u => hZ (xiy b u)
  obtain ⟨hq0, hq1, hq2, hq3, hq4, hq5⟩ := xem fr til key N b bs top d; generalize plS fr til key N (b :: bs) top d = q at hq0 hq1 hq2 hq3 hq4 hq5 ⊢; clear hA; have HL := H; clear H; rw [htch] at hq2 hq3 hq4 hflat; have HTC := hZ htch; clear htch
  cases hcl : xa9 b with
  | false =>
    rw [hcl] at CC; have hq := hq0 hcl; clear hq0 hq1 hq2 hq3 hq4 hq5 hcl hflat; have HQ := hZ hq; clear hq; go_enter Tryz.func113, Tryz.ntmps113; go_upto_region 0 with fail; refine Xkf ?_; clear HL; intro g4 g6 w HL; go_upto_region 1 with fail; refine Xkj ?_; refine Xkk ?_; intro K hK; refine Xgm ?_; clear hK K; intro w HL; refine Xbb ?_; refine X2c ?_; go_upto_region 2 with fail; refine Xi2 ?_; refine X93 ?_; clear HL; intro w HL; go_wp2_with fail; refine Xki ?_; exact ⟨D32.z, false, s, b :: bs, KL, VL, SL, Gk, Gd, Gs, rfl, hB, Nat.le_refl _, hS, by omega, by omega, by omega, HL.drop _ (sA [_, _] _), .inr ⟨rfl, HQ.out⟩⟩
  | true =>
    rw [hcl] at CC; by_cases h0 : b.kind = 0
    · have hq := hq1 hcl h0
      have k7 : ((b.kind : Int) == 0) = true := by rw [h0]; rfl
      clear hq0 hq1 hq2 hq3 hq4 hq5 hcl hflat h0; have HQ := hZ hq; clear hq; have HE := hZ hS1.emp; go_enter Tryz.func113, Tryz.ntmps113; go_upto_region 0 with fail; refine Xkf ?_; clear HL; intro g4 g6 w HL; go_upto_region 1 with fail; refine Xkl ?_; intro w HL; go_upto_region 3 with fail; refine Xkm ?_; refine Xkn ?_; clear HL; intro g8 w HL; go_upto_region 4 with fail; refine Xko ?_; refine xaw sc42 rfl _ _ rfl HL 3 gr 64 138 _ s1.cells (Sv.v ⟨cutA s.rest.A s.rest.c 1 97, s.rest.n - 1, s.rest.c - 1⟩) rfl rfl rfl rfl (by rw [Srd.len]; omega) HS1.out ?_; refine X2y ?_; clear HL; intro w HL; go_upto_region 5 with fail; refine Xkq ?_; intro w HL; go_upto_region 6 with fail; refine Xhp ?_; refine xaa rfl _ (xao (b := true) _ _ rfl _ _ rfl rfl k7) ?_; refine X1c ?_; go_upto_region 7 with fail; refine X16 ?_; refine xaa rfl _ (xaf fa138_2 _ rfl _ rfl) ?_
      refine X5 ?_; refine xaa rfl _ (xau ag23 HL _ rfl _ _ rfl _ _ _ (.tail _ (.tail _ (.tail _ (.head _)))) (Srd.g_emp _) (D32.cl _)) ?_; refine X9a ?_; clear HL; intro w HL; go_wp2_with fail; refine Xf ?_; refine Xkr ?_; exact ⟨s1.emp, true, s1, bs, KL, VL, SL, Gk, Gd, Gs, rfl, hT1, by simp, hS1, by omega, by omega, by omega, HL.drop _ (sA [_, _, _] _), by rw [HE.out, HQ.out, HN1.out]; exact PsR.bare (r := ⟨tagE, bs, [], [], none⟩) rfl rfl rfl⟩
    have k7 : ((b.kind : Int) == 0) = false := nB (by omega); by_cases h3 : b.kind = 3
    · have hq := hq2 hcl h3
      have k9 : ((b.kind : Int) == 3) = true := by rw [h3]; rfl
      clear hq0 hq1 hq2 hq3 hq4 hq5 hcl hflat h0 h3
      cases tch with
      | true =>
        rw [if_pos rfl] at hq; have HQ := hZ hq; clear hq; go_enter Tryz.func113, Tryz.ntmps113; go_upto_region 0 with fail; refine Xkf ?_; clear HL; intro g4 g6 w HL; go_upto_region 1 with fail; refine Xkl ?_; intro w HL; go_upto_region 3 with fail; refine Xkm ?_; refine Xkn ?_; clear HL; intro g8 w HL; go_upto_region 4 with fail; refine Xko ?_; refine xaw sc42 rfl _ _ rfl HL 3 gr 64 138 _ s1.cells (Sv.v ⟨cutA s.rest.A s.rest.c 1 97, s.rest.n - 1, s.rest.c - 1⟩) rfl rfl rfl rfl (by rw [Srd.len]; omega) HS1.out ?_; refine X2y ?_; clear HL; intro w HL; go_upto_region 5 with fail; refine Xkq ?_; intro w HL; go_upto_region 6 with fail; refine Xks ?_; go_upto_region 8 with fail; refine Xhp ?_; refine Xh6 ?_; refine X1c ?_; go_upto_region 9 with fail; refine Xg1 ?_; refine X17 ?_; refine Xbp ?_; refine X9a ?_; clear HL; intro w HL; go_wp2_with fail; refine Xf ?_; refine Xkr ?_
        exact ⟨b.dig, false, s1, bs, KL, VL, SL, Gk, Gd, Gs, rfl, hT1, by simp, hS1, by omega, by omega, by omega, HL.drop _ (sA [_, _, _] _), .inr ⟨rfl, HQ.out⟩⟩
      | false =>
        rw [if_neg (by decide)] at hq; have HQ := hZ hq; clear hq; go_enter Tryz.func113, Tryz.ntmps113; go_upto_region 0 with fail; refine Xkf ?_; clear HL; intro g4 g6 w HL; go_upto_region 1 with fail; refine Xkl ?_; intro w HL; go_upto_region 3 with fail; refine Xkm ?_; refine Xkn ?_; clear HL; intro g8 w HL; go_upto_region 4 with fail; refine Xko ?_; refine xaw sc42 rfl _ _ rfl HL 3 gr 64 138 _ s1.cells (Sv.v ⟨cutA s.rest.A s.rest.c 1 97, s.rest.n - 1, s.rest.c - 1⟩) rfl rfl rfl rfl (by rw [Srd.len]; omega) HS1.out ?_; refine X2y ?_; clear HL; intro w HL; go_upto_region 5 with fail; refine Xkq ?_; intro w HL; go_upto_region 6 with fail; refine Xks ?_; go_upto_region 8 with fail; refine Xhp ?_; refine Xh6 ?_; refine X1c ?_; go_upto_region 9 with fail; refine Xg1 ?_; refine X17 ?_; refine Xbw ?_; refine X9a ?_; clear HL; intro w HL; go_wp2_with fail; refine Xf ?_; refine Xkr ?_
        exact ⟨b.dig, true, s1, bs, KL, VL, SL, Gk, Gd, Gs, rfl, hT1, by simp, hS1, by omega, by omega, by omega, HL.drop _ (sA [_, _, _] _), by rw [HQ.out, HN1.out]; exact PsR.bare (r := ⟨b.dig, bs, [], [], none⟩) rfl rfl rfl⟩
    have k9 : ((b.kind : Int) == 3) = false := nB (by omega)
    have h12 : b.kind = 1 ∨ b.kind = 2 := by
      by_cases h1 : b.kind = 1
      · exact .inl h1
      · exact .inr (xg1 hcl h0 h3 h1)
    cases tch with
    | false =>
      have hq := hq3 hcl h12 rfl; clear hq0 hq1 hq2 hq3 hq4 hq5 hcl hflat h0 h3 h12; have HQ := hZ hq; clear hq; go_enter Tryz.func113, Tryz.ntmps113; go_upto_region 0 with fail; refine Xkf ?_; clear HL; intro g4 g6 w HL; go_upto_region 1 with fail; refine Xkl ?_; intro w HL; go_upto_region 3 with fail; refine Xkm ?_; refine Xkn ?_; clear HL; intro g8 w HL; go_upto_region 4 with fail; refine Xko ?_; refine xaw sc42 rfl _ _ rfl HL 3 gr 64 138 _ s1.cells (Sv.v ⟨cutA s.rest.A s.rest.c 1 97, s.rest.n - 1, s.rest.c - 1⟩) rfl rfl rfl rfl (by rw [Srd.len]; omega) HS1.out ?_; refine X2y ?_; clear HL; intro w HL; go_upto_region 5 with fail; refine Xkq ?_; intro w HL; go_upto_region 6 with fail; refine Xks ?_; go_upto_region 8 with fail; refine Xhp ?_; refine Xhc ?_; go_upto_region 10 with fail; refine Xbx ?_; refine X2h ?_; refine no_implicit_lambda% (X2f ?_); refine no_implicit_lambda% (X2e ?_)
      refine X1u ?_; go_upto_region 11 with fail; refine Xit ?_; refine X4k ?_; clear HL; intro w HL; go_wp2_with fail; refine Xf ?_; refine Xkr ?_; exact ⟨D32.z, false, s1, bs, KL, VL, SL, Gk, Gd, Gs, rfl, hT1, by simp, hS1, by omega, by omega, by omega, HL.drop _ (sA [_, _, _] _), .inr ⟨rfl, HQ.out⟩⟩
    | true =>
      by_cases h1 : b.kind = 1
      · have hq := hq4 hcl h1 rfl
        have k10 : ((b.kind : Int) == 2) = false := nB (by omega); have k11 : ((b.kind : Int) == 1) = true := by rw [h1]; rfl
        clear hq0 hq1 hq2 hq3 hq4 hq5 hcl hflat h0 h3 h1 h12; have HQ := hZ hq; clear hq; obtain ⟨hM1, hM2, hM3⟩ := hM; simp only [qr] at hM1 hM2 hM3; go_enter Tryz.func113, Tryz.ntmps113; go_upto_region 0 with fail; refine Xkf ?_; clear HL; intro g4 g6 w HL; go_upto_region 1 with fail; refine Xkl ?_; intro w HL; go_upto_region 3 with fail; refine Xkm ?_; refine Xkn ?_; clear HL; intro g8 w HL; go_upto_region 4 with fail; refine Xko ?_; refine xaw sc42 rfl _ _ rfl HL 3 gr 64 138 _ s1.cells (Sv.v ⟨cutA s.rest.A s.rest.c 1 97, s.rest.n - 1, s.rest.c - 1⟩) rfl rfl rfl rfl (by rw [Srd.len]; omega) HS1.out ?_; refine X2y ?_; clear HL; intro w HL; go_upto_region 5 with fail; refine Xkq ?_; intro w HL; go_upto_region 6 with fail; refine Xks ?_; go_upto_region 8 with fail; refine Xhp ?_; refine Xhc ?_; go_upto_region 10 with fail; refine Xbq ?_; refine X17 ?_; refine Xgn ?_; refine X5 ?_
        refine Xgo ?_; refine X5 ?_; refine xab rfl _ (xao (b := false) _ _ rfl _ _ rfl rfl k10) ?_; refine X2a ?_; refine no_implicit_lambda% (X2f ?_); refine X1s ?_; refine X1v ?_; go_upto_region 12 with fail; refine Xhp ?_; refine Xgw ?_; refine X1c ?_; have HIN := Loc.inS [(g8, 124, b.cells), (g6, 23, D32.z.c), (g4, 24, top.c)] HL; go_upto_region 13 with fail; refine X14 ?_; refine Xfp ?_; refine Xbz ?_; refine X4a ?_; intro K hK; refine xad cf172 rfl _ rfl ?_; refine X1z ?_; (with_reducible refine (xrl W0 D (X ++ [(g8, 124, b.cells), (g6, 23, D32.z.c), (g4, 24, top.c)]) gr s1 Gk Gd Gs KL VL b top d hd _ hS1.k hS1.v ⟨by omega, by omega⟩ HIN).mono ?_); rintro e w ⟨s2, Gk2, Gd2, rfl, hk2, hd2, e1, e2, e3, e4, e5, e6, e7, HL2⟩; have HM := Loc.outS [(g8, 124, b.cells), (g6, 23, D32.z.c), (g4, 24, top.c)] HL2; clear HL HL2 HIN; have HL := HM; clear HM
        simp only [qm, qn] at HL; have HE1 := hZ e1; have HE2 := hZ e2; have HE3 := hZ e3; have HE4 := hZ e4; have HE5 := hZ e5; have HE6 := hZ e6; have HE7 := hZ e7; clear e1 e2 e3 e4 e5 e6 e7; refine X5q ?_; clear hK K; refine X4g ?_; refine X55 ?_; refine X4k ?_; clear HL; intro w HL; go_wp2_with fail; refine Xf ?_; refine Xkr ?_; refine ⟨tagL b.key b.val, xa1 b.key.l top.l d, s2, bs, _, _, SL, Gk2, Gd2, Gs, rfl, by rw [HE3.out]; exact hT1, by simp, ⟨hk2, hd2, by rw [HE6.out]; exact hS1.sd, by rw [HE1.out]; exact hS1.fr, by rw [HE2.out]; exact hS1.til, by rw [HE5.out]; exact hS1.key, by rw [HE4.out]; exact hS1.emp⟩, ?_, ?_, by omega, HL.drop _ (sA [_, _, _] _), ?_⟩
        · rw [List.length_append]; (try simp only [qr]); split <;> simp only [qr, qs] <;> omega
        · rw [List.length_append]; (try simp only [qr]); split <;> simp only [qr, qs] <;> omega
        · rw [HE7.out, HN1.out]
          have hq := HQ.out; have ef : s1.fr = fr := hS1.fr; have et : s1.til = til := hS1.til; have ek : s1.key = key := hS1.key; rw [ef, et, ek]; exact PsR.leaf hq
      have h2 := xg1 hcl h0 h3 h1
      have hN : N = 0 := by
        rcases hflat with h | h | h | h
        · rw [hcl] at h; cases h
        · exact absurd h2 h
        · cases h
        · exact h
      have hq := hq5 hcl h2 hN; have k10 : ((b.kind : Int) == 2) = true := by rw [h2]; rfl
      have k14 : decide ((256 : Int) ≤ (d : Int)) = true := by simp; omega
      clear hq0 hq1 hq2 hq3 hq4 hq5 hcl hflat h0 h3 h1 h2 hN h12; have HQ := hZ hq; clear hq; go_enter Tryz.func113, Tryz.ntmps113; go_upto_region 0 with fail; refine Xkf ?_; clear HL; intro g4 g6 w HL; go_upto_region 1 with fail; refine Xkl ?_; intro w HL; go_upto_region 3 with fail; refine Xkm ?_; refine Xkn ?_; clear HL; intro g8 w HL; go_upto_region 4 with fail; refine Xko ?_; refine xaw sc42 rfl _ _ rfl HL 3 gr 64 138 _ s1.cells (Sv.v ⟨cutA s.rest.A s.rest.c 1 97, s.rest.n - 1, s.rest.c - 1⟩) rfl rfl rfl rfl (by rw [Srd.len]; omega) HS1.out ?_; refine X2y ?_; clear HL; intro w HL; go_upto_region 5 with fail; refine Xkq ?_; intro w HL; go_upto_region 6 with fail; refine Xks ?_; go_upto_region 8 with fail; refine Xhp ?_; refine Xhc ?_; go_upto_region 10 with fail; refine Xbq ?_; refine X17 ?_; refine Xgn ?_; refine X5 ?_; refine Xgo ?_; refine X5 ?_; refine Xkt ?_; refine X1n ?_
      refine Xis ?_; refine X1w ?_; go_upto_region 11 with fail; refine Xit ?_; refine X4k ?_; clear HL; intro w HL; go_wp2_with fail; refine Xf ?_; refine Xkr ?_; exact ⟨D32.z, false, s1, bs, KL, VL, SL, Gk, Gd, Gs, rfl, hT1, by simp, hS1, by omega, by omega, by omega, HL.drop _ (sA [_, _, _] _), .inr ⟨rfl, HQ.out⟩⟩
theorem xnq (W0 : World) (D : Nat → Prop) (fr til key : D32) (gr : Nat) (N : Nat) (d : Nat) (X : List (Nat × Nat × List Value)) (s : Srd) (b : Brv) (bs : List Brv) (Gk Gd Gs : List (Nat × Nat × List Value)) (KL VL SL : List D32) (top : D32) (w : World) (hd : d ≤ 256) (hB : BrD D W0 s.rest (b :: bs)) (hS : SpS fr til key s Gk Gd Gs KL VL SL) (hM : SpB 200000 (b :: bs).length KL VL SL)
    (H : Loc W0 D (SX gr s Gk Gd Gs X) w) (ih : ∀ (d : Nat) (X : List (Nat × Nat × List Value)) (s : Srd) (bs : List Brv) (Gk Gd Gs : List (Nat × Nat × List Value)) (KL VL SL : List D32) (top : D32) (w : World),
    d + N = 256 → BrD D W0 s.rest bs → SpS fr til key s Gk Gd Gs KL VL SL → SpB 200000 bs.length KL VL SL → Loc W0 D (SX gr s Gk Gd Gs X) w →
    Calls Tryz.prog 113 #[.pointer (some ⟨gr, 0, none⟩), top.a, .int .i64 (d : Int)] w (PsO W0 D X gr fr til key KL VL SL bs.length s.nod (plS fr til key N bs top d))) (hd1 : d + (N + 1) = 256) (hcl : xa9 b = true) (hk2 : b.kind = 2) (hop : tchB fr.l til.l top.l d = true) :
    Calls Tryz.prog 113 #[.pointer (some ⟨gr, 0, none⟩), top.a, .int .i64 (d : Int)] w (PsO W0 D X gr fr til key KL VL SL (b :: bs).length s.nod (plS fr til key (N + 1) (b :: bs) top d)) := by
  have hr0 : 1 ≤ s.rest.n := by have := hB.s.len; simp only [qr] at this; omega
  have k1 : ((s.rest.n : Int) == 0) = false := nB (by omega); obtain ⟨ad, hA, _⟩ := hB.s.at_ 0 (by simp); have HSV : Hid (s.rest.v = .slice (some ad) s.rest.n s.rest.c) := hZ (by unfold Sv.v; rw [hA])
  have hbrd : ∀ (L : List (Nat × Nat × List Value)) (W : World), Loc W0 D L W → Rd W (some (ad.add (0 * 97))) b.cells := by
    intro L W hW; obtain ⟨ad', e', h'⟩ := (hB.at hW).at_ 0 (by simp); rw [hA] at e'; cases e'; exact h'
  obtain ⟨tch, htch⟩ : ∃ t, tchB fr.l til.l top.l d = t := ⟨_, rfl⟩
  obtain ⟨s1, hs1, hS1, hT1, hn1⟩ : ∃ s1 : Srd, s.cells.set 64 (Sv.v ⟨cutA s.rest.A s.rest.c 1 97, s.rest.n - 1, s.rest.c - 1⟩) = s1.cells ∧ SpS fr til key s1 Gk Gd Gs KL VL SL ∧ BrD D W0 s1.rest bs ∧ s1.nod = s.nod :=
    ⟨{s with rest := ⟨cutA s.rest.A s.rest.c 1 97, s.rest.n - 1, s.rest.c - 1⟩}, Srd.s_rest _ _, ⟨hS.k, hS.v, hS.sd, hS.fr, hS.til, hS.key, hS.emp⟩, hB.tail, rfl⟩
  have HS1 := hZ hs1; have HN1 := hZ hn1; clear hs1 hn1
  have CT : ∀ u : World, Hid (Calls Tryz.prog 171 #[.agg s1.str.cells.toArray, top.a, .int .i64 (d : Int)] u fun e w' => e = .returned (.bool tch) ∧ Below u.heap.size u w') := fun u => hZ (by
    have h := xi0 s1.str top d hd u; have e : tchB s1.str.fr.l s1.str.til.l top.l d = tch := by rw [← htch]; show tchB s1.fr.l s1.til.l top.l d = _; rw [hS1.fr, hS1.til]
    rw [e] at h
    exact h)
  have CC := fun u => hZ (xiy b u)
  clear hA; have HL := H; clear H; rw [hcl] at CC; have HTC := hZ hop; rw [hop] at htch; subst htch; have HCL := hZ hcl; have HK2 := hZ hk2; have k7 : ((b.kind : Int) == 0) = false := nB (by omega); have k9 : ((b.kind : Int) == 3) = false := nB (by omega); have k10 : ((b.kind : Int) == 2) = true := by rw [hk2]; rfl
  have k11 : ((b.kind : Int) == 1) = false := nB (by omega); have k14 : decide ((256 : Int) ≤ (d : Int)) = false := by simp; omega
  have HD1 : Hid ((d : Int) + 1 = ((d + 1 : Nat) : Int)) := hZ (by omega); obtain ⟨un, hun⟩ : ∃ r, xa1 key.l top.l (d : Int) = r := ⟨_, rfl⟩; have CU := fun u => hZ (xhn u key top (d : Int) (by omega))
  simp only [hun] at CU; have HUN := hZ hun; obtain ⟨bt, hbt⟩ : ∃ r, tb key.l d = r := ⟨_, rfl⟩; have CB := fun u => hZ (xf0 u key d (by omega))
  simp only [hbt] at CB; have HBT := hZ hbt; obtain ⟨hM1, hM2, hM3⟩ := hM; simp only [qr] at hM1 hM2 hM3; clear hop hk2 hcl hun hbt; go_enter Tryz.func113, Tryz.ntmps113; go_upto_region 0 with fail; refine Xkf ?_; clear HL; intro g4 g6 w HL; go_upto_region 1 with fail; refine Xkl ?_; intro w HL; go_upto_region 3 with fail; refine Xkm ?_; refine Xkn ?_; clear HL; intro g8 w HL; go_upto_region 4 with fail; refine Xko ?_; refine xaw sc42 rfl _ _ rfl HL 3 gr 64 138 _ s1.cells (Sv.v ⟨cutA s.rest.A s.rest.c 1 97, s.rest.n - 1, s.rest.c - 1⟩) rfl rfl rfl rfl (by rw [Srd.len]; omega) HS1.out ?_; refine X2y ?_; clear HL; intro w HL; go_upto_region 5 with fail; refine Xkq ?_; intro w HL; go_upto_region 6 with fail; refine Xks ?_; go_upto_region 8 with fail; refine Xhp ?_; refine Xhc ?_; go_upto_region 10 with fail; refine Xbq ?_; refine X17 ?_; refine Xgn ?_; refine X5 ?_; refine Xgo ?_
  refine X5 ?_; refine Xkt ?_; refine X1n ?_; refine Xis ?_; refine X1w ?_; go_upto_region 12 with fail; refine Xhp ?_; refine Xgz ?_; have HIN := Loc.inS [(g8, 124, b.cells), (g6, 23, D32.z.c), (g4, 24, top.c)] HL; go_upto_region 14 with fail; refine X14 ?_; refine Xbz ?_; refine X17 ?_; refine Xiu ?_; refine X57 ?_; intro K hK; refine xad cf113 rfl _ rfl ?_; refine X1z ?_; (with_reducible refine (ih (d + 1) _ s1 bs Gk Gd Gs KL VL SL top _ (by omega) hT1 hS1 ⟨by omega, by omega, by omega⟩ HIN).mono ?_); rintro e w ⟨l, ok1, s2, bs2, KL2, VL2, SL2, Gk2, Gd2, Gs2, rfl, hB2, hR2, hS2, hk2, hv2, hs2, HL2, hr1⟩; have HM := Loc.outS [(g8, 124, b.cells), (g6, 23, D32.z.c), (g4, 24, top.c)] HL2; clear HL HL2 HIN; have HL := HM; clear HM; simp only [qm, qn] at HL; refine X5c ?_; clear hK K; refine xah zr23 rfl rfl HL ?_; clear HL; intro g10 w HL; refine X93 ?_; clear HL; intro w HL
  have HR1 := hZ hr1; clear hr1
  cases ok1 with
  | true =>
    go_upto_region 15 with fail; refine Xbq ?_; refine X22 ?_; have HIN := Loc.inS [(g10, 23, l.c), (g8, 124, b.cells), (g6, 23, D32.z.c), (g4, 24, top.c)] HL; go_upto_region 17 with fail; refine X14 ?_; refine X9c ?_; refine X4a ?_; intro K hK; refine xad cf173 rfl _ rfl ?_; refine X1z ?_; (with_reducible refine (xp0 top d hd _).mono ?_); refine X4b ?_; intro w hb HL; replace HIN := HIN.next hb; clear hb; refine X21 ?_; clear hK K; refine X17 ?_; refine Xiu ?_; refine X57 ?_; intro K hK; refine xad cf113 rfl _ rfl ?_; refine X1z ?_; (with_reducible refine (ih (d + 1) _ s2 bs2 Gk2 Gd2 Gs2 KL2 VL2 SL2 (xdm top (d : Int)) _ (by omega) hB2 hS2 ⟨by omega, by omega, by omega⟩ HIN).mono ?_); rintro e w ⟨r, ok2, s3, bs3, KL3, VL3, SL3, Gk3, Gd3, Gs3, rfl, hB3, hR3, hS3, hk3, hv3, hs3, HL3, hr2⟩
    have HM := Loc.outS [(g10, 23, l.c), (g8, 124, b.cells), (g6, 23, D32.z.c), (g4, 24, top.c)] HL3; clear HL HL3 HIN; have HL := HM; clear HM; simp only [qm, qn] at HL; refine X5c ?_; clear hK K; refine Xhy ?_; clear HL; intro g12 w HL; refine X93 ?_; clear HL; intro w HL; have HR2 := hZ hr2; clear hr2; have HKE := hZ hS3.key; have CU3 : ∀ u : World, Hid (Calls Tryz.prog 105 #[s3.key.a, top.a, .int .i64 (d : Int)] u fun e w' => e = .returned (.bool un) ∧ Below u.heap.size u w') := fun u => hZ (by rw [HKE.out]; exact (CU u).out)
    have CB3 : ∀ u : World, Hid (Calls Tryz.prog 150 #[s3.key.a, .int .i64 (d : Int)] u fun e w' => e = .returned (.int .i64 (bt.toNat : Int)) ∧ Below u.heap.size u w') := fun u => hZ (by rw [HKE.out]; exact (CB u).out)
    generalize hfl : xlv (d : Int) = fe; clear hfl
    cases un with
    | false =>
      go_upto_region 18 with fail; refine X5f ?_; refine X3b ?_; intro HL; refine Xk6 ?_; refine X5 ?_; refine Xku ?_; refine X5 ?_; refine Xkv ?_; refine Xb7 ?_; intro K hK; refine Xch ?_; (with_reducible refine ((CU3 _).out).mono ?_); refine X4c ?_; intro w HL; refine X5i ?_; clear hK K; refine Xd ?_; go_upto_region 23 with fail; refine Xv ?_; refine Xae ?_; refine X98 ?_; refine X57 ?_; intro K hK; refine X6n ?_; refine Xiw ?_; refine X5n ?_; clear hK K; intro w HL; refine xa6 ag23 rfl _ _ rfl HL 3 g6 23 D32.z.c (tagI l r).c rfl rfl rfl (D32.cl _) (D32.cl _) (D32.c1 _) ?_; refine X2u ?_; clear HL; intro w HL; go_wp2_with fail; refine Xf ?_; refine bodyPost_ret (xak rfl ag23 _ _ g6 23 _ rfl (HL.blk (.tail _ (.tail _ (.tail _ (.head _))))) (D32.cl _)) rfl ?_; have hfin := PsR.inner HCL.out HK2.out HTC.out HR1.out HR2.out
      rw [if_neg (by rw [HUN.out]; decide), List.append_nil] at hfin; exact ⟨tagI l r, ok2, s3, bs3, KL3, VL3, SL3, Gk3, Gd3, Gs3, rfl, hB3, by (try simp only [qr]); omega, hS3, by (try simp only [qr]); omega, by (try simp only [qr]); omega, by (try simp only [qr]); omega, HL.drop _ (sA [_, _, _, _, _] _), by rw [← HN1.out]; exact hfin⟩
    | true =>
      go_upto_region 18 with fail; refine X5f ?_; refine X3b ?_; intro HL; refine Xk6 ?_; refine X5 ?_; refine Xku ?_; refine X5 ?_; refine Xkv ?_; refine Xb7 ?_; intro K hK; refine Xch ?_; (with_reducible refine ((CU3 _).out).mono ?_); refine X4c ?_; intro w HL; refine X5i ?_; clear hK K; refine Xd ?_; go_upto_region 19 with fail; refine Xac ?_; refine xah zr23 rfl rfl HL ?_; clear HL; intro g13 w HL; refine X60 ?_; clear HL; intro w HL
      cases bt with
      | true =>
        go_upto_region 20 with fail; refine X16 ?_; refine xaa rfl _ (xaf xmt _ rfl _ rfl) ?_; refine X5 ?_; refine Xkw ?_; refine X4a ?_; intro K hK; refine X5k ?_; (with_reducible refine ((CB3 _).out).mono ?_); refine X5x ?_; clear hK K; intro w HL; refine X9l ?_; refine X22 ?_; go_upto_region 21 with fail; refine Xv ?_; refine Xdv ?_; refine X60 ?_; clear HL; intro w HL; have HX : Loc W0 D (((g13, 23, l.c) :: (g12, 23, r.c) :: (g10, 23, l.c) :: (g8, 124, b.cells) :: (g6, 23, D32.z.c) :: (g4, 24, top.c) :: (gr, 138, s3.cells) :: (Gk3 ++ Gd3)) ++ (Gs3 ++ X)) w := by simpa [SX, List.append_assoc] using HL
        clear HL; refine Xkx ?_; intro HL; go_upto_region 22 with fail; refine Xky ?_; intro HL; refine X3a ?_; refine xac rfl rfl HL (fun W hW => xaf xhh _ rfl _ rfl) ?_; refine X5 ?_; refine Xhu ?_; refine X5 ?_; refine Xkz ?_; refine X5 ?_; refine X62 ?_; refine Xk ?_; intro K hK; refine Xhv ?_; clear HX HL; intro g136 w HX; refine Xkx ?_; intro HL; refine X3x ?_; clear hK K; intro K hK; refine xam sl29 el23 _ _ rfl (_ :: ((g13, 23, l.c) :: (g12, 23, r.c) :: (g10, 23, l.c) :: (g8, 124, b.cells) :: (g6, 23, D32.z.c) :: (g4, 24, top.c) :: (gr, 138, s3.cells) :: (Gk3 ++ Gd3))) _ s3.sides _ hS3.sd HX rfl ⟨g136, 0, none⟩ 1 1 l.c rfl (Rd.of_blk0 (es := []) (by simpa using HX.blk (.head _))) (D32.cl _) (D32.c1 _) (by omega) (by omega) (by omega) ?_; clear HX HL; intro sv' G' w hG' HX; refine Xkx ?_; intro HL; refine Xk3 ?_; clear hK K; intro K hK
        refine X3x ?_; clear hK K; intro K hK; refine xbs (xaf xhh _ rfl _ rfl) ?_; refine X3w ?_; clear hK K; refine Xhu ?_; refine Xk ?_; intro K hK; refine xbh sc29 _ _ rfl HX 7 gr 131 138 _ ({s3 with sides := sv'} : Srd).cells sv'.v rfl rfl rfl rfl (by rw [Srd.len]; decide) (Srd.s_sides _ _) ?_; clear HX HL; intro w HX; simp only [qg, qh, qm] at HX; refine Xak ?_; clear hK K
        obtain ⟨s4, hs4, hS4, hT4, hn4⟩ : ∃ s4 : Srd, ({s3 with sides := sv'} : Srd).cells = s4.cells ∧ SpS fr til key s4 Gk3 Gd3 G' KL3 VL3 (SL3 ++ [l]) ∧ s4.rest = s3.rest ∧ s4.nod = s3.nod :=
          ⟨{s3 with sides := sv'}, rfl, ⟨hS3.k, hS3.v, by rw [List.length_append, List.flatMap_append]; simpa using hG', hS3.fr, hS3.til, hS3.key, hS3.emp⟩, rfl, rfl⟩
        rw [hs4] at HX; have HT4 := hZ hT4; have HN4 := hZ hn4; clear hs4 hT4 hn4
        have HL : Loc W0 D ([(g13, 23, l.c), (g12, 23, r.c), (g10, 23, l.c), (g8, 124, b.cells), (g6, 23, D32.z.c), (g4, 24, top.c)] ++ SX gr s4 Gk3 Gd3 G' X) w := by
          have h := HX.drop _ (sB _ _); simpa [SX, List.append_assoc] using h
        clear HX; simp only [qm, qn] at HL; go_upto_region 23 with fail; refine Xv ?_; refine Xdv ?_; refine X5 ?_; refine Xad ?_; refine X57 ?_; intro K hK; refine X6n ?_; refine Xiw ?_; refine X5n ?_; clear hK K; intro w HL; refine Xl0 ?_; refine X2u ?_; clear HL; intro w HL; go_wp2_with fail; refine Xf ?_; refine Xl1 ?_; have hfin := PsR.inner HCL.out HK2.out HTC.out HR1.out HR2.out; rw [if_pos HUN.out, HBT.out, if_pos rfl] at hfin; have hlen : (SL3 ++ [l]).length = SL3.length + 1 := by simp
        exact ⟨tagI l r, ok2, s4, bs3, KL3, VL3, SL3 ++ [l], Gk3, Gd3, G', rfl, by rw [HT4.out]; exact hB3, by (try simp only [qr]); omega, hS4, by (try simp only [qr]); omega, by (try simp only [qr]); omega, by rw [hlen]; (try simp only [qr]); omega, HL.drop _ (sA [_, _, _, _, _, _] _), by rw [HN4.out, ← HN1.out]; exact hfin⟩
      | false =>
        go_upto_region 20 with fail; refine X16 ?_; refine xaa rfl _ (xaf xmt _ rfl _ rfl) ?_; refine X5 ?_; refine Xkw ?_; refine X4a ?_; intro K hK; refine X5k ?_; (with_reducible refine ((CB3 _).out).mono ?_); refine X5x ?_; clear hK K; intro w HL; refine X9s ?_; refine X22 ?_; have HX : Loc W0 D (((g13, 23, r.c) :: (g12, 23, r.c) :: (g10, 23, l.c) :: (g8, 124, b.cells) :: (g6, 23, D32.z.c) :: (g4, 24, top.c) :: (gr, 138, s3.cells) :: (Gk3 ++ Gd3)) ++ (Gs3 ++ X)) w := by simpa [SX, List.append_assoc] using HL
        clear HL; refine Xl2 ?_; intro HL; go_upto_region 22 with fail; refine Xky ?_; intro HL; refine X3a ?_; refine xac rfl rfl HL (fun W hW => xaf xhh _ rfl _ rfl) ?_; refine X5 ?_; refine Xhu ?_; refine X5 ?_; refine Xkz ?_; refine X5 ?_; refine X62 ?_; refine Xk ?_; intro K hK; refine Xhv ?_; clear HX HL; intro g136 w HX; refine Xl2 ?_; intro HL; refine X3x ?_; clear hK K; intro K hK; refine xam sl29 el23 _ _ rfl (_ :: ((g13, 23, r.c) :: (g12, 23, r.c) :: (g10, 23, l.c) :: (g8, 124, b.cells) :: (g6, 23, D32.z.c) :: (g4, 24, top.c) :: (gr, 138, s3.cells) :: (Gk3 ++ Gd3))) _ s3.sides _ hS3.sd HX rfl ⟨g136, 0, none⟩ 1 1 r.c rfl (Rd.of_blk0 (es := []) (by simpa using HX.blk (.head _))) (D32.cl _) (D32.c1 _) (by omega) (by omega) (by omega) ?_; clear HX HL; intro sv' G' w hG' HX; refine Xl2 ?_; intro HL; refine Xk3 ?_; clear hK K; intro K hK
        refine X3x ?_; clear hK K; intro K hK; refine xbs (xaf xhh _ rfl _ rfl) ?_; refine X3w ?_; clear hK K; refine Xhu ?_; refine Xk ?_; intro K hK; refine xbh sc29 _ _ rfl HX 7 gr 131 138 _ ({s3 with sides := sv'} : Srd).cells sv'.v rfl rfl rfl rfl (by rw [Srd.len]; decide) (Srd.s_sides _ _) ?_; clear HX HL; intro w HX; simp only [qg, qh, qm] at HX; refine Xak ?_; clear hK K
        obtain ⟨s4, hs4, hS4, hT4, hn4⟩ : ∃ s4 : Srd, ({s3 with sides := sv'} : Srd).cells = s4.cells ∧ SpS fr til key s4 Gk3 Gd3 G' KL3 VL3 (SL3 ++ [r]) ∧ s4.rest = s3.rest ∧ s4.nod = s3.nod :=
          ⟨{s3 with sides := sv'}, rfl, ⟨hS3.k, hS3.v, by rw [List.length_append, List.flatMap_append]; simpa using hG', hS3.fr, hS3.til, hS3.key, hS3.emp⟩, rfl, rfl⟩
        rw [hs4] at HX; have HT4 := hZ hT4; have HN4 := hZ hn4; clear hs4 hT4 hn4
        have HL : Loc W0 D ([(g13, 23, r.c), (g12, 23, r.c), (g10, 23, l.c), (g8, 124, b.cells), (g6, 23, D32.z.c), (g4, 24, top.c)] ++ SX gr s4 Gk3 Gd3 G' X) w := by
          have h := HX.drop _ (sB _ _); simpa [SX, List.append_assoc] using h
        clear HX; simp only [qm, qn] at HL; go_upto_region 23 with fail; refine Xv ?_; refine Xdv ?_; refine X5 ?_; refine Xad ?_; refine X57 ?_; intro K hK; refine X6n ?_; refine Xiw ?_; refine X5n ?_; clear hK K; intro w HL; refine Xl0 ?_; refine X2u ?_; clear HL; intro w HL; go_wp2_with fail; refine Xf ?_; refine Xl1 ?_; have hfin := PsR.inner HCL.out HK2.out HTC.out HR1.out HR2.out; rw [if_pos HUN.out, HBT.out, if_neg (by decide)] at hfin; have hlen : (SL3 ++ [r]).length = SL3.length + 1 := by simp
        exact ⟨tagI l r, ok2, s4, bs3, KL3, VL3, SL3 ++ [r], Gk3, Gd3, G', rfl, by rw [HT4.out]; exact hB3, by (try simp only [qr]); omega, hS4, by (try simp only [qr]); omega, by (try simp only [qr]); omega, by rw [hlen]; (try simp only [qr]); omega, HL.drop _ (sA [_, _, _, _, _, _] _), by rw [HN4.out, ← HN1.out]; exact hfin⟩
  | false =>
    go_upto_region 15 with fail; refine Xbx ?_; refine X22 ?_; go_upto_region 16 with fail; refine Xi2 ?_; refine Xix ?_; refine X4k ?_; clear HL; intro w HL; go_wp2_with fail; refine Xf ?_; refine bodyPost_ret (xak rfl ag23 _ _ g6 23 _ rfl (HL.blk (.tail _ (.tail _ (.head _)))) (D32.cl _)) rfl ?_; exact ⟨D32.z, false, s2, bs2, KL2, VL2, SL2, Gk2, Gd2, Gs2, rfl, hB2, by (try simp only [qr]); omega, hS2, by (try simp only [qr]); omega, by (try simp only [qr]); omega, by (try simp only [qr]); omega, HL.drop _ (sA [_, _, _, _] _), by rw [← HN1.out]; exact HR1.out.bad1 (xf7 fr til key N b bs top d HCL.out HK2.out HTC.out).1⟩
theorem xp1 (W0 : World) (D : Nat → Prop) (fr til key : D32) (gr : Nat) (N : Nat) : ∀ (d : Nat) (X : List (Nat × Nat × List Value)) (s : Srd) (bs : List Brv) (Gk Gd Gs : List (Nat × Nat × List Value)) (KL VL SL : List D32) (top : D32) (w : World),
    d + N = 256 → BrD D W0 s.rest bs → SpS fr til key s Gk Gd Gs KL VL SL → SpB 200000 bs.length KL VL SL → Loc W0 D (SX gr s Gk Gd Gs X) w →
    Calls Tryz.prog 113 #[.pointer (some ⟨gr, 0, none⟩), top.a, .int .i64 (d : Int)] w (PsO W0 D X gr fr til key KL VL SL bs.length s.nod (plS fr til key N bs top d)) := by
  induction N with
  | zero =>
    intro d X s bs Gk Gd Gs KL VL SL top w hdN hB hS hM H
    cases bs with
    | nil => exact xhu W0 D fr til key gr 0 d X s Gk Gd Gs KL VL SL top w hB hS H
    | cons b bs => exact xhv W0 D fr til key gr 0 d X s b bs Gk Gd Gs KL VL SL top w (by omega) hB hS hM H (.inr (.inr (.inr rfl))) hdN
  | succ N ih =>
    intro d X s bs Gk Gd Gs KL VL SL top w hdN hB hS hM H
    cases bs with
    | nil => exact xhu W0 D fr til key gr (N + 1) d X s Gk Gd Gs KL VL SL top w hB hS H
    | cons b bs =>
      by_cases hfl : xa9 b = false ∨ b.kind ≠ 2 ∨ tchB fr.l til.l top.l d = false ∨ N + 1 = 0
      · exact xhv W0 D fr til key gr (N + 1) d X s b bs Gk Gd Gs KL VL SL top w (by omega) hB hS hM H hfl hdN
      · have h1 : xa9 b = true := by
          cases h : xa9 b with
          | true => rfl
          | false => exact absurd (.inl h) hfl
        have h2 : b.kind = 2 := by
          by_cases h : b.kind = 2
          · exact h
          · exact absurd (.inr (.inl h)) hfl
        have h3 : tchB fr.l til.l top.l d = true := by
          cases h : tchB fr.l til.l top.l d with
          | true => rfl
          | false => exact absurd (.inr (.inr (.inl h))) hfl
        exact xnq W0 D fr til key gr N d X s b bs Gk Gd Gs KL VL SL top w (by omega) hB hS hM H ih hdN h1 h2 h3
end
end Go.Proofs.YtkjjdgnkelchfaaGreat
