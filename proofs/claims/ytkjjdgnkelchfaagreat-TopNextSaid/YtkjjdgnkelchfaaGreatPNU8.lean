import Derived.Test.YtkjjdgnkelchfaaGreatPNU7
set_option linter.unusedSimpArgs false
set_option linter.unusedVariables false
set_option maxRecDepth 100000
set_option maxHeartbeats 16000000
namespace Go.Proofs.YtkjjdgnkelchfaaGreat
open Go Go.RowKit Go.Proofs.Tryz
theorem bs32:BS prog 32 Nod.z.cells [(0,1),(1,32),(33,32),(65,32),(97,32)]:=BS.of underlying32 (by kernel_rfl) (by kernel_rfl)
theorem bd32_0(x1:D32)(x2:D32):Instr.fill (fun x=>[(0,1),(1,32),(33,32),(65,32),(97,32)].toArray[x]?) Nod.z.cells.toArray [(0,Value.int .u8 1),(1,.agg x1.c.toArray),(2,.agg x2.c.toArray)]=some ((⟨1,x1,x2,D32.z,D32.z⟩:Nod)).cells.toArray:=by
 rw[show Nod.z=(⟨0,D32.z,D32.z,D32.z,D32.z⟩:Nod) from rfl];refine xaj (vs:=[Value.int .u8 1]) rfl (rfl) (rfl) (by rw[Nod.len];decide) ?_;rw[xbg _ _ _ (by rw[Nod.len];decide)];rw[show(⟨0,D32.z,D32.z,D32.z,D32.z⟩:Nod).cells.set 0 (Value.int .u8 1)=(⟨1,D32.z,D32.z,D32.z,D32.z⟩:Nod).cells from Nod.s_kind (⟨0,D32.z,D32.z,D32.z,D32.z⟩:Nod) (1)];refine xaj (vs:=x1.c) rfl (rfl) (D32.cl _) (by rw[Nod.len];decide) ?_;rw[Nod.s_key];refine xaj (vs:=x2.c) rfl (rfl) (D32.cl _) (by rw[Nod.len];decide) ?_;rw[Nod.s_val];rfl
theorem xi7:BS prog 124 Brv.z.cells [(0,1),(1,32),(33,32),(65,32)]:=BS.of underlying124 (by kernel_rfl) (by kernel_rfl)
theorem xkq(x0:Nat):Instr.fill (fun x=>[(0,1),(1,32),(33,32),(65,32)].toArray[x]?) Brv.z.cells.toArray [(0,Value.int .u8 (x0:Int))]=some ((⟨x0,D32.z,D32.z,D32.z⟩:Brv)).cells.toArray:=by
 rw[show Brv.z=(⟨0,D32.z,D32.z,D32.z⟩:Brv) from rfl];refine xaj (vs:=[Value.int .u8 (x0:Int)]) rfl (rfl) (rfl) (by rw[Brv.len];decide) ?_;rw[xbg _ _ _ (by rw[Brv.len];decide)];rw[show(⟨0,D32.z,D32.z,D32.z⟩:Brv).cells.set 0 (Value.int .u8 (x0:Int))=(⟨x0,D32.z,D32.z,D32.z⟩:Brv).cells from Brv.s_kind (⟨0,D32.z,D32.z,D32.z⟩:Brv) (x0)];rfl
theorem xkr(x3:D32):Instr.fill (fun x=>[(0,1),(1,32),(33,32),(65,32)].toArray[x]?) Brv.z.cells.toArray [(0,Value.int .u8 3),(3,.agg x3.c.toArray)]=some ((⟨3,D32.z,D32.z,x3⟩:Brv)).cells.toArray:=by
 rw[show Brv.z=(⟨0,D32.z,D32.z,D32.z⟩:Brv) from rfl];refine xaj (vs:=[Value.int .u8 3]) rfl (rfl) (rfl) (by rw[Brv.len];decide) ?_;rw[xbg _ _ _ (by rw[Brv.len];decide)];rw[show(⟨0,D32.z,D32.z,D32.z⟩:Brv).cells.set 0 (Value.int .u8 3)=(⟨3,D32.z,D32.z,D32.z⟩:Brv).cells from Brv.s_kind (⟨0,D32.z,D32.z,D32.z⟩:Brv) (3)];refine xaj (vs:=x3.c) rfl (rfl) (D32.cl _) (by rw[Brv.len];decide) ?_;rw[Brv.s_dig];rfl
theorem bs44:BS prog 44 ([Value.slice none 0 0]) [(0,1)]:=BS.of underlying44 (by kernel_rfl) (by kernel_rfl)
theorem bs199:BS prog 199 ([Value.slice none 0 0]++(D32.z.c++([Value.slice none 0 0]))) [(0,1),(1,32),(33,1)]:=BS.of underlying199 (by kernel_rfl) (by kernel_rfl)
theorem bd199_17(x0:Sv)(x1:D32)(x2:Sv):Instr.fill (fun x=>[(0,1),(1,32),(33,1)].toArray[x]?) ([Value.slice none 0 0]++(D32.z.c++([Value.slice none 0 0]))).toArray [(0,x0.v),(1,.agg x1.c.toArray),(2,x2.v)]=some (([x0.v]++(x1.c++([x2.v])))).toArray:=by
 refine xaj (vs:=[x0.v]) rfl (rfl) (rfl) (by simp only[qp,qr,qs,D32.cl,Brv.len,Cla.len,Clm.len,Nd.len,Nod.len,Par.len,Plc.len,Prv.len,Sai.len,Say.len,Slo.len,Spv.len,Str.len];decide) ?_
 have e0:splice ([Value.slice none 0 0]++(D32.z.c++([Value.slice none 0 0]))) 0 [x0.v]=([x0.v]++(D32.z.c++([Value.slice none 0 0]))):=by
  have h:=xbl ([]:List Value) [Value.slice none 0 0] (D32.z.c++([Value.slice none 0 0])) [x0.v] (by first | rfl | (simp only[D32.cl,Brv.len,Cla.len,Clm.len,Nd.len,Nod.len,Par.len,Plc.len,Prv.len,Sai.len,Say.len,Slo.len,Spv.len,Str.len,qr,qs]));have hl:(([]:List Value):List Value).length=0:=by first | rfl | (simp only[qp,qr,qs,D32.cl,Brv.len,Cla.len,Clm.len,Nd.len,Nod.len,Par.len,Plc.len,Prv.len,Sai.len,Say.len,Slo.len,Spv.len,Str.len])
  rw[hl] at h;simpa only[List.append_assoc,List.nil_append,List.append_nil,List.cons_append] using h
 rw[e0];refine xaj (vs:=x1.c) rfl (rfl) (D32.cl _) (by simp only[qp,qr,qs,D32.cl,Brv.len,Cla.len,Clm.len,Nd.len,Nod.len,Par.len,Plc.len,Prv.len,Sai.len,Say.len,Slo.len,Spv.len,Str.len];decide) ?_
 have e1:splice ([x0.v]++(D32.z.c++([Value.slice none 0 0]))) 1 x1.c=([x0.v]++(x1.c++([Value.slice none 0 0]))):=by
  have h:=xbl ([x0.v]) D32.z.c ([Value.slice none 0 0]) x1.c (by first | rfl | (simp only[D32.cl,Brv.len,Cla.len,Clm.len,Nd.len,Nod.len,Par.len,Plc.len,Prv.len,Sai.len,Say.len,Slo.len,Spv.len,Str.len,qr,qs]));have hl:(([x0.v]):List Value).length=1:=by first | rfl | (simp only[qp,qr,qs,D32.cl,Brv.len,Cla.len,Clm.len,Nd.len,Nod.len,Par.len,Plc.len,Prv.len,Sai.len,Say.len,Slo.len,Spv.len,Str.len])
  rw[hl] at h;simpa only[List.append_assoc,List.nil_append,List.append_nil,List.cons_append] using h
 rw[e1];refine xaj (vs:=[x2.v]) rfl (rfl) (rfl) (by simp only[qp,qr,qs,D32.cl,Brv.len,Cla.len,Clm.len,Nd.len,Nod.len,Par.len,Plc.len,Prv.len,Sai.len,Say.len,Slo.len,Spv.len,Str.len];decide) ?_
 have e2:splice ([x0.v]++(x1.c++([Value.slice none 0 0]))) 33 [x2.v]=([x0.v]++(x1.c++([x2.v]))):=by
  have h:=xbl ([x0.v]++(x1.c)) [Value.slice none 0 0] ([]:List Value) [x2.v] (by first | rfl | (simp only[D32.cl,Brv.len,Cla.len,Clm.len,Nd.len,Nod.len,Par.len,Plc.len,Prv.len,Sai.len,Say.len,Slo.len,Spv.len,Str.len,qr,qs]));have hl:(([x0.v]++(x1.c)):List Value).length=33:=by first | rfl | (simp only[qp,qr,qs,D32.cl,Brv.len,Cla.len,Clm.len,Nd.len,Nod.len,Par.len,Plc.len,Prv.len,Sai.len,Say.len,Slo.len,Spv.len,Str.len])
  rw[hl] at h;simpa only[List.append_assoc,List.nil_append,List.append_nil,List.cons_append] using h
 rw[e2];rfl
theorem bs61:BS prog 61 Par.z.cells [(0,32),(32,1)]:=BS.of underlying61 (by kernel_rfl) (by kernel_rfl)
theorem xnj(x0:D32)(x1:Sv):Instr.fill (fun x=>[(0,32),(32,1)].toArray[x]?) Par.z.cells.toArray [(0,.agg x0.c.toArray),(1,x1.v)]=some ((⟨x0,x1⟩:Par)).cells.toArray:=by
 rw[show Par.z=(⟨D32.z,Sv.nil⟩:Par) from rfl];refine xaj (vs:=x0.c) rfl (rfl) (D32.cl _) (by rw[Par.len];decide) ?_;rw[Par.s_key];refine xaj (vs:=[x1.v]) rfl (rfl) (rfl) (by rw[Par.len];decide) ?_;rw[xbg _ _ _ (by rw[Par.len];decide)];rw[show(⟨x0,Sv.nil⟩:Par).cells.set 32 (x1.v)=(⟨x0,x1⟩:Par).cells from Par.s_val (⟨x0,Sv.nil⟩:Par) (x1)];rfl
theorem bd44_21(x0:Sv):Instr.fill (fun x=>[(0,1)].toArray[x]?) ([Value.slice none 0 0]).toArray [(0,x0.v)]=some (([x0.v])).toArray:=by
 refine xaj (vs:=[x0.v]) rfl (rfl) (rfl) (by simp only[qp,qr,qs,D32.cl,Brv.len,Cla.len,Clm.len,Nd.len,Nod.len,Par.len,Plc.len,Prv.len,Sai.len,Say.len,Slo.len,Spv.len,Str.len];decide) ?_
 have e0:splice ([Value.slice none 0 0]) 0 [x0.v]=([x0.v]):=by
  have h:=xbl ([]:List Value) [Value.slice none 0 0] ([]:List Value) [x0.v] (by first | rfl | (simp only[D32.cl,Brv.len,Cla.len,Clm.len,Nd.len,Nod.len,Par.len,Plc.len,Prv.len,Sai.len,Say.len,Slo.len,Spv.len,Str.len,qr,qs]));have hl:(([]:List Value):List Value).length=0:=by first | rfl | (simp only[qp,qr,qs,D32.cl,Brv.len,Cla.len,Clm.len,Nd.len,Nod.len,Par.len,Plc.len,Prv.len,Sai.len,Say.len,Slo.len,Spv.len,Str.len])
  rw[hl] at h;simpa only[List.append_assoc,List.nil_append,List.append_nil,List.cons_append] using h
 rw[e0];rfl
theorem bs163:BS prog 163 ([Value.pointer none]) [(0,1)]:=BS.of underlying163 (by kernel_rfl) (by kernel_rfl)
theorem bd163_23(x0:Value)(h0:x0.oneCell'=true):Instr.fill (fun x=>[(0,1)].toArray[x]?) ([Value.pointer none]).toArray [(0,x0)]=some (([x0])).toArray:=by
 refine xaj (vs:=[x0]) rfl (xev _ h0) (rfl) (by simp only[qp,qr,qs,D32.cl,Brv.len,Cla.len,Clm.len,Nd.len,Nod.len,Par.len,Plc.len,Prv.len,Sai.len,Say.len,Slo.len,Spv.len,Str.len];decide) ?_
 have e0:splice ([Value.pointer none]) 0 [x0]=([x0]):=by
  refine X37 ?_;intro h;have hl:(([]:List Value):List Value).length=0:=by first | rfl | (simp only[qp,qr,qs,D32.cl,Brv.len,Cla.len,Clm.len,Nd.len,Nod.len,Par.len,Plc.len,Prv.len,Sai.len,Say.len,Slo.len,Spv.len,Str.len])
  rw[hl] at h;simpa only[List.append_assoc,List.nil_append,List.append_nil,List.cons_append] using h
 rw[e0];rfl
theorem bs166:BS prog 166 ([Value.pointer none]++([Value.pointer none]++([iV 0]))) [(0,1),(1,1),(2,1)]:=BS.of underlying166 (by kernel_rfl) (by kernel_rfl)
theorem bd166_24(x0:Value)(x1:Value)(h1:x1.oneCell'=true):Instr.fill (fun x=>[(0,1),(1,1),(2,1)].toArray[x]?) ([Value.pointer none]++([Value.pointer none]++([iV 0]))).toArray [(0,.agg [x0].toArray),(1,x1),(2,iV 0)]=some (([x0]++([x1]++([iV 0])))).toArray:=by
 refine xaj (vs:=[x0]) rfl (rfl) (rfl) (by simp only[qp,qr,qs,D32.cl,Brv.len,Cla.len,Clm.len,Nd.len,Nod.len,Par.len,Plc.len,Prv.len,Sai.len,Say.len,Slo.len,Spv.len,Str.len];decide) ?_
 have e0:splice ([Value.pointer none]++([Value.pointer none]++([iV 0]))) 0 [x0]=([x0]++([Value.pointer none]++([iV 0]))):=by
  have h:=xbl ([]:List Value) [Value.pointer none] ([Value.pointer none]++([iV 0])) [x0] (by first | rfl | (simp only[D32.cl,Brv.len,Cla.len,Clm.len,Nd.len,Nod.len,Par.len,Plc.len,Prv.len,Sai.len,Say.len,Slo.len,Spv.len,Str.len,qr,qs]));have hl:(([]:List Value):List Value).length=0:=by first | rfl | (simp only[qp,qr,qs,D32.cl,Brv.len,Cla.len,Clm.len,Nd.len,Nod.len,Par.len,Plc.len,Prv.len,Sai.len,Say.len,Slo.len,Spv.len,Str.len])
  rw[hl] at h;simpa only[List.append_assoc,List.nil_append,List.append_nil,List.cons_append] using h
 rw[e0];refine xaj (vs:=[x1]) rfl (xev _ h1) (rfl) (by simp only[qp,qr,qs,D32.cl,Brv.len,Cla.len,Clm.len,Nd.len,Nod.len,Par.len,Plc.len,Prv.len,Sai.len,Say.len,Slo.len,Spv.len,Str.len];decide) ?_
 have e1:splice ([x0]++([Value.pointer none]++([iV 0]))) 1 [x1]=([x0]++([x1]++([iV 0]))):=by
  have h:=xbl ([x0]) [Value.pointer none] ([iV 0]) [x1] (by first | rfl | (simp only[D32.cl,Brv.len,Cla.len,Clm.len,Nd.len,Nod.len,Par.len,Plc.len,Prv.len,Sai.len,Say.len,Slo.len,Spv.len,Str.len,qr,qs]));have hl:(([x0]):List Value).length=1:=by first | rfl | (simp only[qp,qr,qs,D32.cl,Brv.len,Cla.len,Clm.len,Nd.len,Nod.len,Par.len,Plc.len,Prv.len,Sai.len,Say.len,Slo.len,Spv.len,Str.len])
  rw[hl] at h;simpa only[List.append_assoc,List.nil_append,List.append_nil,List.cons_append] using h
 rw[e1];refine xaj (vs:=[iV 0]) rfl (rfl) (rfl) (by simp only[qp,qr,qs,D32.cl,Brv.len,Cla.len,Clm.len,Nd.len,Nod.len,Par.len,Plc.len,Prv.len,Sai.len,Say.len,Slo.len,Spv.len,Str.len];decide) ?_
 have e2:splice ([x0]++([x1]++([iV 0]))) 2 [iV 0]=([x0]++([x1]++([iV 0]))):=by
  have h:=xbl ([x0]++([x1])) [iV 0] ([]:List Value) [iV 0] (by first | rfl | (simp only[D32.cl,Brv.len,Cla.len,Clm.len,Nd.len,Nod.len,Par.len,Plc.len,Prv.len,Sai.len,Say.len,Slo.len,Spv.len,Str.len,qr,qs]));have hl:(([x0]++([x1])):List Value).length=2:=by first | rfl | (simp only[qp,qr,qs,D32.cl,Brv.len,Cla.len,Clm.len,Nd.len,Nod.len,Par.len,Plc.len,Prv.len,Sai.len,Say.len,Slo.len,Spv.len,Str.len])
  rw[hl] at h;simpa only[List.append_assoc,List.nil_append,List.append_nil,List.cons_append] using h
 rw[e2];rfl
theorem bs256:BS prog 256 ([Value.pointer none]) [(0,1)]:=BS.of underlying256 (by kernel_rfl) (by kernel_rfl)
theorem bd256_25(x0:Value)(h0:x0.oneCell'=true):Instr.fill (fun x=>[(0,1)].toArray[x]?) ([Value.pointer none]).toArray [(0,x0)]=some (([x0])).toArray:=by
 refine xaj (vs:=[x0]) rfl (xev _ h0) (rfl) (by simp only[qp,qr,qs,D32.cl,Brv.len,Cla.len,Clm.len,Nd.len,Nod.len,Par.len,Plc.len,Prv.len,Sai.len,Say.len,Slo.len,Spv.len,Str.len];decide) ?_
 have e0:splice ([Value.pointer none]) 0 [x0]=([x0]):=by
  refine X37 ?_;intro h;have hl:(([]:List Value):List Value).length=0:=by first | rfl | (simp only[qp,qr,qs,D32.cl,Brv.len,Cla.len,Clm.len,Nd.len,Nod.len,Par.len,Plc.len,Prv.len,Sai.len,Say.len,Slo.len,Spv.len,Str.len])
  rw[hl] at h;simpa only[List.append_assoc,List.nil_append,List.append_nil,List.cons_append] using h
 rw[e0];rfl
theorem bs230:BS prog 230 Nd.z.cells [(0,32),(32,1),(33,1),(34,32),(66,1),(67,32),(99,1),(100,1),(101,1),(102,1)]:=BS.of underlying230 (by kernel_rfl) (by kernel_rfl)
theorem bs228:BS prog 228 (D32.z.c) [(0,32)]:=BS.of underlying228 (by kernel_rfl) (by kernel_rfl)
theorem bd228_27(x0:D32):Instr.fill (fun x=>[(0,32)].toArray[x]?) (D32.z.c).toArray [(0,.agg x0.c.toArray)]=some ((x0.c)).toArray:=by
 refine xaj (vs:=x0.c) rfl (rfl) (D32.cl _) (by simp only[qp,qr,qs,D32.cl,Brv.len,Cla.len,Clm.len,Nd.len,Nod.len,Par.len,Plc.len,Prv.len,Sai.len,Say.len,Slo.len,Spv.len,Str.len];decide) ?_
 have e0:splice (D32.z.c) 0 x0.c=(x0.c):=by
  have h:=xbl ([]:List Value) D32.z.c ([]:List Value) x0.c (by first | rfl | (simp only[D32.cl,Brv.len,Cla.len,Clm.len,Nd.len,Nod.len,Par.len,Plc.len,Prv.len,Sai.len,Say.len,Slo.len,Spv.len,Str.len,qr,qs]));have hl:(([]:List Value):List Value).length=0:=by first | rfl | (simp only[qp,qr,qs,D32.cl,Brv.len,Cla.len,Clm.len,Nd.len,Nod.len,Par.len,Plc.len,Prv.len,Sai.len,Say.len,Slo.len,Spv.len,Str.len])
  rw[hl] at h;simpa only[List.append_assoc,List.nil_append,List.append_nil,List.cons_append] using h
 rw[e0];rfl
theorem bd230_28(x0:D32)(x3:D32)(x4:Sv)(x5:D32):Instr.fill (fun x=>[(0,32),(32,1),(33,1),(34,32),(66,1),(67,32),(99,1),(100,1),(101,1),(102,1)].toArray[x]?) Nd.z.cells.toArray [(0,.agg x0.c.toArray),(1,Value.int .u8 1),(2,iV (-1)),(3,.agg x3.c.toArray),(4,x4.v),(5,.agg x5.c.toArray),(8,iV 1),(9,iV 1)]=some ((⟨x0,1,(-1),x3,x4,x5,0,0,1,1⟩:Nd)).cells.toArray:=by
 rw[show Nd.z=(⟨D32.z,0,0,D32.z,Sv.nil,D32.z,0,0,0,0⟩:Nd) from rfl];refine xaj (vs:=x0.c) rfl (rfl) (D32.cl _) (by rw[Nd.len];decide) ?_;rw[Nd.s_dig];refine xaj (vs:=[Value.int .u8 1]) rfl (rfl) (rfl) (by rw[Nd.len];decide) ?_;rw[xbg _ _ _ (by rw[Nd.len];decide)];rw[show(⟨x0,0,0,D32.z,Sv.nil,D32.z,0,0,0,0⟩:Nd).cells.set 32 (Value.int .u8 1)=(⟨x0,1,0,D32.z,Sv.nil,D32.z,0,0,0,0⟩:Nd).cells from Nd.s_kind (⟨x0,0,0,D32.z,Sv.nil,D32.z,0,0,0,0⟩:Nd) (1)];refine xaj (vs:=[iV (-1)]) rfl (rfl) (rfl) (by rw[Nd.len];decide) ?_;rw[xbg _ _ _ (by rw[Nd.len];decide)];rw[show(⟨x0,1,0,D32.z,Sv.nil,D32.z,0,0,0,0⟩:Nd).cells.set 33 (iV (-1))=(⟨x0,1,(-1),D32.z,Sv.nil,D32.z,0,0,0,0⟩:Nd).cells from Nd.s_depth (⟨x0,1,0,D32.z,Sv.nil,D32.z,0,0,0,0⟩:Nd) ((-1))]
 refine xaj (vs:=x3.c) rfl (rfl) (D32.cl _) (by rw[Nd.len];decide) ?_;rw[Nd.s_key];refine xaj (vs:=[x4.v]) rfl (rfl) (rfl) (by rw[Nd.len];decide) ?_;rw[xbg _ _ _ (by rw[Nd.len];decide)];rw[show(⟨x0,1,(-1),x3,Sv.nil,D32.z,0,0,0,0⟩:Nd).cells.set 66 (x4.v)=(⟨x0,1,(-1),x3,x4,D32.z,0,0,0,0⟩:Nd).cells from Nd.s_vs (⟨x0,1,(-1),x3,Sv.nil,D32.z,0,0,0,0⟩:Nd) (x4)];refine xaj (vs:=x5.c) rfl (rfl) (D32.cl _) (by rw[Nd.len];decide) ?_;rw[Nd.s_hash];refine xaj (vs:=[iV 1]) rfl (rfl) (rfl) (by rw[Nd.len];decide) ?_;rw[xbg _ _ _ (by rw[Nd.len];decide)];rw[show(⟨x0,1,(-1),x3,x4,x5,0,0,0,0⟩:Nd).cells.set 101 (iV 1)=(⟨x0,1,(-1),x3,x4,x5,0,0,1,0⟩:Nd).cells from Nd.s_size (⟨x0,1,(-1),x3,x4,x5,0,0,0,0⟩:Nd) (1)]
 refine xaj (vs:=[iV 1]) rfl (rfl) (rfl) (by rw[Nd.len];decide) ?_;rw[xbg _ _ _ (by rw[Nd.len];decide)];rw[show(⟨x0,1,(-1),x3,x4,x5,0,0,1,0⟩:Nd).cells.set 102 (iV 1)=(⟨x0,1,(-1),x3,x4,x5,0,0,1,1⟩:Nd).cells from Nd.s_held (⟨x0,1,(-1),x3,x4,x5,0,0,1,0⟩:Nd) (1)];rfl
theorem bs353:BS prog 353 ([iV 0]++([Value.pointer none])) [(0,1),(1,1)]:=BS.of underlying353 (by kernel_rfl) (by kernel_rfl)
theorem bd353_29(x0:Int)(x1:Value)(h1:x1.oneCell'=true):Instr.fill (fun x=>[(0,1),(1,1)].toArray[x]?) ([iV 0]++([Value.pointer none])).toArray [(0,iV x0),(1,x1)]=some (([iV x0]++([x1]))).toArray:=by
 refine xaj (vs:=[iV x0]) rfl (rfl) (rfl) (by simp only[qp,qr,qs,D32.cl,Brv.len,Cla.len,Clm.len,Nd.len,Nod.len,Par.len,Plc.len,Prv.len,Sai.len,Say.len,Slo.len,Spv.len,Str.len];decide) ?_
 have e0:splice ([iV 0]++([Value.pointer none])) 0 [iV x0]=([iV x0]++([Value.pointer none])):=by
  have h:=xbl ([]:List Value) [iV 0] ([Value.pointer none]) [iV x0] (by first | rfl | (simp only[D32.cl,Brv.len,Cla.len,Clm.len,Nd.len,Nod.len,Par.len,Plc.len,Prv.len,Sai.len,Say.len,Slo.len,Spv.len,Str.len,qr,qs]));have hl:(([]:List Value):List Value).length=0:=by first | rfl | (simp only[qp,qr,qs,D32.cl,Brv.len,Cla.len,Clm.len,Nd.len,Nod.len,Par.len,Plc.len,Prv.len,Sai.len,Say.len,Slo.len,Spv.len,Str.len])
  rw[hl] at h;simpa only[List.append_assoc,List.nil_append,List.append_nil,List.cons_append] using h
 rw[e0];refine xaj (vs:=[x1]) rfl (xev _ h1) (rfl) (by simp only[qp,qr,qs,D32.cl,Brv.len,Cla.len,Clm.len,Nd.len,Nod.len,Par.len,Plc.len,Prv.len,Sai.len,Say.len,Slo.len,Spv.len,Str.len];decide) ?_
 have e1:splice ([iV x0]++([Value.pointer none])) 1 [x1]=([iV x0]++([x1])):=by
  have h:=xbl ([iV x0]) [Value.pointer none] ([]:List Value) [x1] (by first | rfl | (simp only[D32.cl,Brv.len,Cla.len,Clm.len,Nd.len,Nod.len,Par.len,Plc.len,Prv.len,Sai.len,Say.len,Slo.len,Spv.len,Str.len,qr,qs]));have hl:(([iV x0]):List Value).length=1:=by first | rfl | (simp only[qp,qr,qs,D32.cl,Brv.len,Cla.len,Clm.len,Nd.len,Nod.len,Par.len,Plc.len,Prv.len,Sai.len,Say.len,Slo.len,Spv.len,Str.len])
  rw[hl] at h;simpa only[List.append_assoc,List.nil_append,List.append_nil,List.cons_append] using h
 rw[e1];rfl
theorem bd230_30(x0:D32)(x2:Int)(x3:D32)(x6:Int)(x7:Int)(x8:Int):Instr.fill (fun x=>[(0,32),(32,1),(33,1),(34,32),(66,1),(67,32),(99,1),(100,1),(101,1),(102,1)].toArray[x]?) Nd.z.cells.toArray [(0,.agg x0.c.toArray),(1,Value.int .u8 2),(2,iV x2),(3,.agg x3.c.toArray),(6,iV x6),(7,iV x7),(8,iV x8),(9,iV 1)]=some ((⟨x0,2,x2,x3,Sv.nil,D32.z,x6,x7,x8,1⟩:Nd)).cells.toArray:=by
 rw[show Nd.z=(⟨D32.z,0,0,D32.z,Sv.nil,D32.z,0,0,0,0⟩:Nd) from rfl];refine xaj (vs:=x0.c) rfl (rfl) (D32.cl _) (by rw[Nd.len];decide) ?_;rw[Nd.s_dig];refine xaj (vs:=[Value.int .u8 2]) rfl (rfl) (rfl) (by rw[Nd.len];decide) ?_;rw[xbg _ _ _ (by rw[Nd.len];decide)];rw[show(⟨x0,0,0,D32.z,Sv.nil,D32.z,0,0,0,0⟩:Nd).cells.set 32 (Value.int .u8 2)=(⟨x0,2,0,D32.z,Sv.nil,D32.z,0,0,0,0⟩:Nd).cells from Nd.s_kind (⟨x0,0,0,D32.z,Sv.nil,D32.z,0,0,0,0⟩:Nd) (2)];refine xaj (vs:=[iV x2]) rfl (rfl) (rfl) (by rw[Nd.len];decide) ?_;rw[xbg _ _ _ (by rw[Nd.len];decide)];rw[show(⟨x0,2,0,D32.z,Sv.nil,D32.z,0,0,0,0⟩:Nd).cells.set 33 (iV x2)=(⟨x0,2,x2,D32.z,Sv.nil,D32.z,0,0,0,0⟩:Nd).cells from Nd.s_depth (⟨x0,2,0,D32.z,Sv.nil,D32.z,0,0,0,0⟩:Nd) (x2)]
 refine xaj (vs:=x3.c) rfl (rfl) (D32.cl _) (by rw[Nd.len];decide) ?_;rw[Nd.s_key];refine xaj (vs:=[iV x6]) rfl (rfl) (rfl) (by rw[Nd.len];decide) ?_;rw[xbg _ _ _ (by rw[Nd.len];decide)];rw[show(⟨x0,2,x2,x3,Sv.nil,D32.z,0,0,0,0⟩:Nd).cells.set 99 (iV x6)=(⟨x0,2,x2,x3,Sv.nil,D32.z,x6,0,0,0⟩:Nd).cells from Nd.s_left (⟨x0,2,x2,x3,Sv.nil,D32.z,0,0,0,0⟩:Nd) (x6)];refine xaj (vs:=[iV x7]) rfl (rfl) (rfl) (by rw[Nd.len];decide) ?_;rw[xbg _ _ _ (by rw[Nd.len];decide)];rw[show(⟨x0,2,x2,x3,Sv.nil,D32.z,x6,0,0,0⟩:Nd).cells.set 100 (iV x7)=(⟨x0,2,x2,x3,Sv.nil,D32.z,x6,x7,0,0⟩:Nd).cells from Nd.s_right (⟨x0,2,x2,x3,Sv.nil,D32.z,x6,0,0,0⟩:Nd) (x7)];refine xaj (vs:=[iV x8]) rfl (rfl) (rfl) (by rw[Nd.len];decide) ?_;rw[xbg _ _ _ (by rw[Nd.len];decide)]
 rw[show(⟨x0,2,x2,x3,Sv.nil,D32.z,x6,x7,0,0⟩:Nd).cells.set 101 (iV x8)=(⟨x0,2,x2,x3,Sv.nil,D32.z,x6,x7,x8,0⟩:Nd).cells from Nd.s_size (⟨x0,2,x2,x3,Sv.nil,D32.z,x6,x7,0,0⟩:Nd) (x8)];refine xaj (vs:=[iV 1]) rfl (rfl) (rfl) (by rw[Nd.len];decide) ?_;rw[xbg _ _ _ (by rw[Nd.len];decide)];rw[show(⟨x0,2,x2,x3,Sv.nil,D32.z,x6,x7,x8,0⟩:Nd).cells.set 102 (iV 1)=(⟨x0,2,x2,x3,Sv.nil,D32.z,x6,x7,x8,1⟩:Nd).cells from Nd.s_held (⟨x0,2,x2,x3,Sv.nil,D32.z,x6,x7,x8,0⟩:Nd) (1)];rfl
theorem bs318:BS prog 318 ([Value.slice none 0 0]++([Value.slice none 0 0]++([iV 0]++([iV 0])))) [(0,1),(1,1),(2,1),(3,1)]:=BS.of underlying318 (by kernel_rfl) (by kernel_rfl)
theorem bd318_32(x2:Int):Instr.fill (fun x=>[(0,1),(1,1),(2,1),(3,1)].toArray[x]?) ([Value.slice none 0 0]++([Value.slice none 0 0]++([iV 0]++([iV 0])))).toArray [(2,iV x2)]=some (([Value.slice none 0 0]++([Value.slice none 0 0]++([iV x2]++([iV 0]))))).toArray:=by
 refine xaj (vs:=[iV x2]) rfl (rfl) (rfl) (by simp only[qp,qr,qs,D32.cl,Brv.len,Cla.len,Clm.len,Nd.len,Nod.len,Par.len,Plc.len,Prv.len,Sai.len,Say.len,Slo.len,Spv.len,Str.len];decide) ?_
 have e2:splice ([Value.slice none 0 0]++([Value.slice none 0 0]++([iV 0]++([iV 0])))) 2 [iV x2]=([Value.slice none 0 0]++([Value.slice none 0 0]++([iV x2]++([iV 0])))):=by
  have h:=xbl ([Value.slice none 0 0]++([Value.slice none 0 0])) [iV 0] ([iV 0]) [iV x2] (by first | rfl | (simp only[D32.cl,Brv.len,Cla.len,Clm.len,Nd.len,Nod.len,Par.len,Plc.len,Prv.len,Sai.len,Say.len,Slo.len,Spv.len,Str.len,qr,qs]));have hl:(([Value.slice none 0 0]++([Value.slice none 0 0])):List Value).length=2:=by first | rfl | (simp only[qp,qr,qs,D32.cl,Brv.len,Cla.len,Clm.len,Nd.len,Nod.len,Par.len,Plc.len,Prv.len,Sai.len,Say.len,Slo.len,Spv.len,Str.len])
  rw[hl] at h;simpa only[List.append_assoc,List.nil_append,List.append_nil,List.cons_append] using h
 rw[e2];rfl
theorem bs340:BS prog 340 Slo.z.cells [(0,103),(103,1)]:=BS.of underlying340 (by kernel_rfl) (by kernel_rfl)
theorem bd340_33(x:Nd):Instr.fill (fun x=>[(0,103),(103,1)].toArray[x]?) Slo.z.cells.toArray [(0,.agg x.cells.toArray),(1,iV 1)]=some (x.slo 1).cells.toArray:=by
 refine xaj (vs:=x.cells) rfl rfl (Nd.len _) (by rw[Slo.len];decide) ?_;have h:=xbl [] Nd.z.cells [iV 0] x.cells (by rw[Nd.len,Nd.len]);simp only[qn,qs] at h;have e:Slo.z.cells=Nd.z.cells++[iV 0]:=Nd.slo_cells Nd.z 0;rw[e,h];refine xaj (vs:=[iV 1]) rfl rfl rfl (by simp[Nd.len]) ?_;have h2:=xbl x.cells [iV 0] [] [iV 1] rfl;rw[Nd.len] at h2;simp only[qu] at h2;rw[h2,← Nd.slo_cells];rfl
theorem bs259:BS prog 259 ([Value.pointer none]++([Value.map none])) [(0,1),(1,1)]:=BS.of underlying259 (by kernel_rfl) (by kernel_rfl)
theorem bd259_35(x0:Value)(h0:x0.oneCell'=true)(x1:Value)(h1:x1.oneCell'=true):Instr.fill (fun x=>[(0,1),(1,1)].toArray[x]?) ([Value.pointer none]++([Value.map none])).toArray [(0,x0),(1,x1)]=some (([x0]++([x1]))).toArray:=by
 refine xaj (vs:=[x0]) rfl (xev _ h0) (rfl) (by simp only[qp,qr,qs,D32.cl,Brv.len,Cla.len,Clm.len,Nd.len,Nod.len,Par.len,Plc.len,Prv.len,Sai.len,Say.len,Slo.len,Spv.len,Str.len];decide) ?_
 have e0:splice ([Value.pointer none]++([Value.map none])) 0 [x0]=([x0]++([Value.map none])):=by
  have h:=xbl ([]:List Value) [Value.pointer none] ([Value.map none]) [x0] (by first | rfl | (simp only[D32.cl,Brv.len,Cla.len,Clm.len,Nd.len,Nod.len,Par.len,Plc.len,Prv.len,Sai.len,Say.len,Slo.len,Spv.len,Str.len,qr,qs]));have hl:(([]:List Value):List Value).length=0:=by first | rfl | (simp only[qp,qr,qs,D32.cl,Brv.len,Cla.len,Clm.len,Nd.len,Nod.len,Par.len,Plc.len,Prv.len,Sai.len,Say.len,Slo.len,Spv.len,Str.len])
  rw[hl] at h;simpa only[List.append_assoc,List.nil_append,List.append_nil,List.cons_append] using h
 rw[e0];refine xaj (vs:=[x1]) rfl (xev _ h1) (rfl) (by simp only[qp,qr,qs,D32.cl,Brv.len,Cla.len,Clm.len,Nd.len,Nod.len,Par.len,Plc.len,Prv.len,Sai.len,Say.len,Slo.len,Spv.len,Str.len];decide) ?_
 have e1:splice ([x0]++([Value.map none])) 1 [x1]=([x0]++([x1])):=by
  have h:=xbl ([x0]) [Value.map none] ([]:List Value) [x1] (by first | rfl | (simp only[D32.cl,Brv.len,Cla.len,Clm.len,Nd.len,Nod.len,Par.len,Plc.len,Prv.len,Sai.len,Say.len,Slo.len,Spv.len,Str.len,qr,qs]));have hl:(([x0]):List Value).length=1:=by first | rfl | (simp only[qp,qr,qs,D32.cl,Brv.len,Cla.len,Clm.len,Nd.len,Nod.len,Par.len,Plc.len,Prv.len,Sai.len,Say.len,Slo.len,Spv.len,Str.len])
  rw[hl] at h;simpa only[List.append_assoc,List.nil_append,List.append_nil,List.cons_append] using h
 rw[e1];rfl
section
variable {D:Nat→Prop}{w w':World}{g:Nat}{σ σ':Sb}{vs vf vs' vf':Sv}
def Sb.takeF(σ:Sb)(i:Nat)(e:En):Sb:=⟨σ.slots.set i e,σ.free.dropLast,σ.room,σ.used+1⟩
def Sb.takeN(σ:Sb)(e:En):Sb:=⟨σ.slots++[e],σ.free,σ.room,σ.used+1⟩
theorem Sb.takeF_ok(h:σ.Ok)(i:Nat)(e:En)(hf:0<σ.free.length):(σ.takeF i e).Ok :=
 ⟨h.r1,h.r2,by have:=h.fit;simp[Sb.takeF];omega,by simpa[Sb.takeF] using h.few,fun n hn=>by
  have h1:=h.fr n (List.dropLast_subset _ hn)
  simpa[Sb.takeF] using h1⟩
theorem Sb.takeN_ok(h:σ.Ok)(e:En)(hf:σ.free = [])(hu:σ.used<σ.room):(σ.takeN e).Ok :=
 ⟨h.r1,h.r2,by have:=h.fit;simp[Sb.takeN,hf] at this ⊢;omega,by have:=h.fit;simp[hf] at this;simp[Sb.takeN];omega,fun n hn=>by rw[show(σ.takeN e).free=σ.free from rfl,hf] at hn;simp at hn⟩
theorem row_take(i:Nat)(hi:i<σ.slots.length)(e:En)(sp:List Value):splice (rowS σ++sp) (i*104) e.cells=rowS (σ.takeF i e)++sp:=by
 unfold rowS Sb.takeF;exact xci En.len _ sp i _ hi
theorem sbs_free(h:SbP D w g σ vs vf)(hf:0<σ.free.length):∃ F sp,vf=⟨aS F,σ.free.length,vf.c⟩∧vf.v.ownBlock=some F∧Blk w F 3 (rowF σ++sp)∧σ.free.length≤vf.c∧vf.c≤maxLen∧(rowF σ++sp).length=vf.c*1:=by
 exact xgc h.free hf
theorem xnk(h:SbP D w g σ vs vf)(x:Nd)(val:LU)(fl:List Nat)(i:Nat)(hfree:σ.free=fl++[i+1])(hroom:σ.used<σ.room)(hx:ValOk D w g vs vf x.vs val) :
  Calls prog 208 #[pG g,.agg x.cells.toArray] w fun e w'=>∃ D' vf',e=.returned (.tuple #[.int .i64 ((i+1:Nat):Int),iV 0])∧SbP D' w' g (σ.takeF i ⟨x,1,val⟩) vs vf'∧Stp D w D' w'∧Fr (SbS g vs vf) w w':=by
 have hfn:σ.free.length=fl.length+1:=by rw[hfree];simp
 have hi:i<σ.slots.length:=by
  have:=h.ok.fr (i+1) (by rw[hfree];simp);omega
 obtain⟨G,sp,he,hD,hS,hb,hcap,hmx,hlen⟩:=h.slotC i hi;obtain⟨F,sf,hef,hFo,hbF,hcapF,hmxF,hlenF⟩:=sbs_free h (by omega);have hap:=h.apart G _ hb;have hFG:F≠G:=fun e=>hap.2 (e▸hFo)
 have hFg:F≠g:=xqu h hFo;have hrow:=hZ (row_take i hi ⟨x,1,val⟩ sp);have hfit:i*104+104≤(rowS σ++sp).length:=by rw[hlen];omega
 have hfl:Hid ((rowF σ++sf)[fl.length]? = some (.int .i64 ((i+1:Nat):Int))):=by
  show _=_;unfold rowF;rw[hfree];simp
 have hbg:=h.blk;have hub:=h.ok.fit;have hfew:=h.ok.few;have hr2:=h.ok.r2;have k1:((σ.used:Int)==(σ.room:Int))=false:=by simp;omega
 have k2:decide ((0:Int)<(σ.free.length:Int))=true:=by simp;omega
 have HU:Hid ((σ.used:Int)+1=((σ.used+1:Nat):Int)):=hZ (by omega);have HF1:Hid ((σ.free.length:Int) - 1=(fl.length:Int)):=hZ (by omega);have HI1:Hid (((i+1:Nat):Int) - 1=(i:Int)):=hZ (by omega);have hU2:σ.used<65536:=by omega
 have hF2:fl.length+1≤65536:=by omega
 have hi2:i<65536:=by omega
 have hflt:fl.length<σ.free.length:=by omega
 have hfcap:fl.length≤vf.c:=by omega
 have hHE:=hZ (And.intro he (And.intro hef (And.intro hfree (And.intro hlen (And.intro hlenF hfn)))));have HH:=hZ h;rw[he,hef] at hbg;clear he hef hfree hlen hlenF hub hfew hr2 h hfn;generalize hm:σ.free.length=m at *;have HM:=hZ hm;clear hm;obtain⟨w0,rfl,HL⟩:=lS w;go_enter func208,ntmps208;go_upto_region 0 with fail;refine X39 ?_;clear HL;intro g3 w HL;refine X1g ?_;go_upto_region 1 with fail;refine X1x ?_;intro K hK;(with_reducible refine(xfw (HH.out.below HL.below)).mono ?_);rintro e w ⟨rfl,rfl⟩;refine X20 ?_;clear hK K
 replace HL:=HL.adopt (fun k=>k=G∨k=g∨k=F) [(G,340,rowS σ++sp),(g,318,[(⟨aS G,σ.slots.length,vs.c⟩:Sv).v,(⟨aS F,m,vf.c⟩:Sv).v,iV (σ.room:Int),iV (σ.used:Int)]),(F,3,rowF σ++sf)] (by intro y hy;simp at hy;rcases hy with rfl | rfl | rfl;exact⟨.inl rfl,hb⟩;exact⟨.inr (.inl rfl),hbg⟩;exact⟨.inr (.inr rfl),hbF⟩) (by simp;exact⟨⟨hap.1,Ne.symm hFG⟩,Ne.symm hFg⟩);simp only[qm,qn] at HL;go_upto_region 3 with fail;refine rB (Loc.P HL) [] [] [0,1,2,3,4,5,6,7,8] 0 ?_;refine X3e ?_;intro HL;refine xab rfl rfl HL (fun W hW=>xaf xng _ rfl _ rfl) ?_;refine X6 ?_;refine X3f ?_;refine X3h ?_;refine xab rfl rfl HL (fun W hW=>xaf xjq _ rfl _ rfl) ?_;refine X6 ?_;refine X3f ?_;refine X3k ?_;go_upto_region 5 with fail;refine X14 ?_;refine X21 ?_;refine X6 ?_
 refine xaa rfl _ (xai sc3 HL _ rfl _ _ rfl _ _ _ (.tail _ (.tail _ (.head _))) (rfl)) ?_;refine X6 ?_;refine X3l ?_;refine X21 ?_;refine X6 ?_;refine xa3 sc3 rfl _ _ rfl HL 2 _ _ _ _ _ _ rfl rfl rfl rfl (by simp) (rfl) ?_;refine X34 ?_;clear HL;intro w HL;go_upto_region 6 with fail;refine X14 ?_;refine X31 ?_;refine X6 ?_;refine X3m ?_;refine X6 ?_;refine X3n ?_;refine X1a ?_;go_upto_region 7 with fail;refine X2n ?_;go_upto_region 8 with fail;refine X14 ?_;refine X31 ?_;refine X6 ?_;refine X3m ?_;refine X3o ?_;refine X6 ?_;refine xaa rfl _ (xap sl71 _ _ rfl F _ _ fl.length _ rfl rfl hflt) ?_;refine X6 ?_;refine xaa rfl _ (xai sc3 HL _ rfl _ _ rfl _ _ _ (.tail _ (.tail _ (.tail _ (.head _)))) (by rw[Nat.mul_one];exact hfl.out)) ?_;refine X1a ?_;go_upto_region 9 with fail;refine X30 ?_;refine X31 ?_
 refine X6 ?_;refine X3m ?_;refine X3o ?_;refine X6 ?_;refine xaa rfl _ (xbw sl71 _ _ rfl (aS F) m vf.c fl.length _ rfl rfl hfcap) ?_;refine X16 ?_;refine X31 ?_;refine X6 ?_;refine xa3 sc71 rfl _ _ rfl HL 2 _ _ _ _ _ _ rfl rfl rfl rfl (by simp) (rfl) ?_;refine X34 ?_;clear HL;intro w HL;go_upto_region 10 with fail;refine rB (Loc.P HL) [9] [9] [0,1,2,3,4,5,6,7,8,9] 0 ?_;refine X3e ?_;intro HL;refine xab rfl rfl HL (fun W hW=>xaf xfv _ rfl _ rfl) ?_;refine X6 ?_;refine xab rfl rfl HL (fun W hW=>xai sc316 hW _ rfl _ _ rfl _ _ _ (.tail _ (.tail _ (.head _))) (rfl)) ?_;refine X3g ?_;refine xab rfl rfl HL (fun W hW=>xa2 _ _ rfl _ _ _ rfl rfl HI1.out (by omega)) ?_;refine X6 ?_;refine X3p ?_;refine X3q ?_;refine X6 ?_
 refine xab rfl rfl HL (fun W hW=>xap xo9 _ _ rfl G _ _ i _ rfl rfl hi) ?_;refine Xh ?_;intro K hK;refine xbe ag340.i _ _ rfl G (i*104) 340 _ _ rfl rfl (HL.blk (.tail _ (.head _))) (Slo.len _) hfit (Slo.one _) ?_;intro w' hb' hg' _;refine X3r ?_;clear hK K;rw[show splice (rowS σ++sp) (i*104) (x.slo 1).cells=rowS (σ.takeF i ⟨x,1,val⟩)++sp from hrow.out] at hb';replace HL:=HL.putAt (i:=1) rfl hb' hg';simp only[qg,qh] at HL;refine Xa ?_;go_upto_region 11 with fail;refine X3s ?_;go_wp2_with fail;go_ret2;obtain⟨he,hef,hfree,hlen,hlenF,hfn⟩:=hHE.out
 have hfin:Fr (SbS g vs vf) w0 w':=by
  refine⟨HL.fr.os,HL.fr.tape,HL.fr.output,HL.fr.size,fun k hk hn=>HL.heap ⟨hk,?_⟩⟩;rintro(rfl | rfl | rfl)
  ·exact hn hS
  ·exact hn (.inl rfl)
  ·exact hn (.inr (.inr hFo))
 have hG1:=HL.blk (.tail _ (.head _));have hg1:=HL.blk (.tail _ (.tail _ (.head _)));have hF1:=HL.blk (.tail _ (.tail _ (.tail _ (.head _))));have hn:(σ.takeF i ⟨x,1,val⟩).slots.length=σ.slots.length:=by simp[Sb.takeF]
 have hfl2:(σ.takeF i ⟨x,1,val⟩).free=fl:=by simp[Sb.takeF,hfree]
 have hag:=HH.out.again (σ':=σ.takeF i ⟨x,1,val⟩) (vs':=vs) (vf':=⟨aS F,fl.length,vf.c⟩) hfin (by
  rintro k (rfl | e | e)
  ·exact .inl (.inl rfl)
  ·exact .inl (.inr (.inl e))
  ·simp[Sv.v,Value.ownBlock] at e
   exact .inl (.inr (.inr (e▸hFo)))) (by
  rintro k (rfl | e | e)
  ·exact hg1.lt
  ·rw[he] at e;simp[Sv.v,Value.ownBlock] at e;rw[← e];exact hG1.lt
  ·simp[Sv.v,Value.ownBlock] at e;rw[← e];exact hF1.lt) (by rw[he];exact hg1) (by
   rw[hn];refine xfx he hG1 (by rw[xe2,hn]) hcap hmx ?_;rw[List.length_append,xe2] at hlen ⊢
   rw[hn];exact hlen) (by
   rw[hfl2];have e1:rowF σ++sf=(fl.map fun n:Nat=>iV n)++([.int .i64 ((i+1:Nat):Int)]++sf):=by unfold rowF;rw[hfree];simp
   have e2:rowF (σ.takeF i ⟨x,1,val⟩)=fl.map fun n:Nat=>Value.int .i64 (n:Int):=by unfold rowF;rw[hfl2]
   rw[e2];rw[e1] at hF1 hlenF
   exact xfx (v:=⟨aS F,fl.length,vf.c⟩) rfl hF1 (by simp) hfcap hmxF hlenF) (Sb.takeF_ok HH.out.ok i _ (by rw[hfree];simp)) (by
   intro e he';rcases List.mem_or_eq_of_mem_set he' with he' | rfl
   ·exact .inl he'
   ·refine .inr ⟨?_,hx.2⟩
    have h1:=hx.fr hfin (fun k hk=>hk);refine⟨h1.1.len,h1.1.cap,h1.1.max,h1.1.rd,fun ad e hk=>h1.1.far ad e ?_⟩;rcases hk with e | e | e
    ·exact .inl e
    ·exact .inr (.inl e)
    ·simp[Sv.v,Value.ownBlock] at e
     exact .inr (.inr (e▸hFo)))
 exact⟨_,_,rfl,hag.1,hag.2,hfin⟩
end
theorem Loc.less{w0 w:World}{D D':Nat→Prop}{L:BL}(H:Loc w0 D L w)(h:∀ k,D' k→D k):Loc w0 D' L w :=
 ⟨⟨H.fr.os,H.fr.tape,H.fr.output,H.fr.size,fun k hk hn=>H.heap (h k (Classical.not_not.1 hn))⟩,fun x hx=>⟨fun hd=>(H.own x hx).1 (h _ hd),(H.own x hx).2⟩,H.nd,fun k hk=>H.old k (h k hk)⟩
theorem xfh{w:World}{base e z n:Nat}{v:Sv}{xs:List Value}(h:w.ownsRow base e z v.v n xs):v.n=n:=by
 obtain⟨A,c,e,_⟩:=xfq h;unfold Sv.v at e;simp only[Value.slice.injEq] at e;exact e.2.1
section
variable {D:Nat→Prop}{w w':World}{g:Nat}{σ σ':Sb}{vs vf vs' vf':Sv}
theorem xb4{w:World}{base e z n k:Nat}{v:Value}{xs:List Value}(h:w.ownsRow base e z v n xs)(hk:v.ownBlock=some k):∃ cs,Blk w k e cs:=by
 obtain⟨h1,h2⟩:=h;rcases h2 with⟨h3,h4⟩ | ⟨k',cap,cur,h3,hk',hh,hn,hm,hs,ht⟩
 ·rw[h3] at hk;cases hk
 ·rw[h3] at hk
  simp[Value.ownBlock] at hk;subst hk;exact⟨cur.toList,by simpa[Blk] using hh⟩
theorem SbP.vfvs(h:SbP D w g σ vs vf){k:Nat}(hk:vf.v.ownBlock=some k):vs.v.ownBlock≠some k:=fun e=>by
 obtain⟨c1,h1⟩:=xb4 h.free hk;obtain⟨c2,h2⟩:=xb4 h.slots e;exact h1.ne h2 (by decide) rfl
theorem xpb(h:SbP D w g σ vs vf)(x:Nd)(val:LU)(hfree:σ.free = [])(hroom:σ.used<σ.room)(hx:ValOk D w g vs vf x.vs val) :
  Calls prog 208 #[pG g,.agg x.cells.toArray] w fun e w'=>∃ D' vs',e=.returned (.tuple #[.int .i64 ((σ.slots.length+1:Nat):Int),iV 0])∧SbP D' w' g (σ.takeN ⟨x,1,val⟩) vs' vf∧Stp D w D' w'∧Fr (SbS g vs vf) w w':=by
 have hfn:vf.n=0:=by rw[h.vfn,hfree];rfl
 have hbg:=h.blk;have hub:=h.ok.fit;have hr2:=h.ok.r2;have hfew:=h.ok.few;have k1:((σ.used:Int)==(σ.room:Int))=false:=by simp;omega
 have HU:Hid ((σ.used:Int)+1=((σ.used+1:Nat):Int)):=hZ (by omega);have hU2:σ.used<65536:=by omega
 have hS2:σ.slots.length≤65536:=by omega
 have hHE:=hZ (And.intro hfree hfn);have HH:=hZ h
 have hvg:∀ k,vs.v.ownBlock=some k→Old w k∧¬ k=g:=fun k hk=>⟨h.lt k (h.own k (.inr (.inl hk))),by
  obtain⟨h1,h2⟩:=h.slots;rcases h2 with⟨h3,h4⟩ | ⟨k',cap,cur,h3,hk',hh,hn,hm,hs,ht⟩
  ·rw[h3] at hk;cases hk
  ·rw[h3] at hk
   simp[Value.ownBlock] at hk;subst hk;have hb2:Blk w k' 340 cur.toList:=by simpa[Blk] using hh
   exact hb2.ne h.blk (by decide)⟩
 rw[show vf.v=.slice vf.A 0 vf.c by unfold Sv.v;rw[hfn]] at hbg;clear hfree hub hfew hr2 h hfn;obtain⟨w0,rfl,HL⟩:=lS w;go_enter func208,ntmps208;go_upto_region 0 with fail;refine X39 ?_;clear HL;intro g3 w HL;refine X1g ?_;go_upto_region 1 with fail;refine X1x ?_;intro K hK;(with_reducible refine(xfw (HH.out.below HL.below)).mono ?_);rintro e w ⟨rfl,rfl⟩;refine X20 ?_;clear hK K;have hg3 : ¬ Old w0 g3:=(HL.own _ (.head _)).1;replace HL:=HL.adopt (· = g) [(g,318,[vs.v,.slice vf.A 0 vf.c,iV (σ.room:Int),iV (σ.used:Int)])] (by intro y hy;simp at hy;subst hy;exact⟨rfl,hbg⟩) (by simp);simp only[qm,qn] at HL;go_upto_region 3 with fail;refine rB (Loc.P HL) [] [] [0,1,2,3,4,5,6,7,8] 0 ?_;refine X3e ?_;intro HL;refine xab rfl rfl HL (fun W hW=>xaf xng _ rfl _ rfl) ?_;refine X6 ?_;refine X3t ?_;refine X3h ?_
 refine xab rfl rfl HL (fun W hW=>xaf xjq _ rfl _ rfl) ?_;refine X6 ?_;refine X3t ?_;refine X3k ?_;go_upto_region 5 with fail;refine X14 ?_;refine X21 ?_;refine X35 ?_;refine X6 ?_;refine X3l ?_;refine X21 ?_;refine X36 ?_;refine X34 ?_;clear HL;intro w HL;go_upto_region 6 with fail;refine X14 ?_;refine X31 ?_;refine X32 ?_;refine X6 ?_;refine X3n ?_;refine X1a ?_;go_upto_region 7 with fail;refine X2n ?_;have hrow:w.ownsRow 0 340 104 vs.v σ.slots.length (rowS σ):=xbm HH.out.slots (fun k hk=>HL.heap (hvg k hk));have hvlt:∀ k,vs.v.ownBlock=some k→k<w.heap.size:=fun k hk=>HL.lt (hvg k hk)
 have HD:=HL.less (D':=fun k=>Old w0 k∧¬ (k=g∨vs.v.ownBlock=some k)) (fun k hk=>⟨hk.1,fun e=>hk.2 (.inl e)⟩);clear HL;have HL:=HD;clear HD;have hsz0:w0.heap.size≤w.heap.size:=HL.fr.size;go_upto_region 12 with fail;refine rB (Loc.P HL) [11] [7,8,9,10,11] [0,1,2,3,4,5,6,7,8,9,10,11] 0 ?_;refine X3v ?_;intro HL;refine X3d ?_;refine xab rfl rfl HL (fun W hW=>xaf xfv _ rfl _ rfl) ?_;refine X6 ?_;refine xab rfl rfl HL (fun W hW=>xai sc316 hW _ rfl _ _ rfl _ _ _ (.tail _ (.head _)) (rfl)) ?_;refine X6 ?_;refine X3p ?_;refine X3q ?_;refine Xh ?_;intro K hK;refine xif xo9 el340 (by decide) _ rfl _ rfl (Slo.len _) ?_;have hb:=Blk.new w.drew 340 (x.slo 1).cells;replace hrow:=xbm (w':=w.drew.alloc (.cells (x.slo 1).cells.toArray 340)) hrow (fun k hk=>Below.heap_alloc w.drew _ k (hvlt k hk))
 replace HL:=HL.next ((Below.refl _ _).alloc (Nat.le_refl _) (.cells (x.slo 1).cells.toArray 340));refine X3x ?_;clear hK K;have hsz1:w0.heap.size≤(w.drew.alloc (.cells (x.slo 1).cells.toArray 340)).heap.size:=HL.fr.size;refine Xg ?_;intro K hK;refine xes xo9 el340 _ _ rfl vs σ.slots.length (rowS σ) rfl hrow _ 1 1 (x.slo 1).cells rfl (Rd.of_blk0 (es:=[]) (by simpa using hb)) (Slo.len _) (Slo.one _) (by omega) (by omega) (by omega) ?_;intro vs' w1 hrow' hgr hv1 hv2;have hfT:Fr (fun k=>vs.v.ownBlock=some k) (w.drew.alloc (.cells (x.slo 1).cells.toArray 340)) w1:=(Fr.refl _ _).grown hgr (fun g e=>.inl e)
 replace HL:=HL.frame hfT (fun k hk hd=>hd.2 (.inr hk)) (by
  intro y hy e;simp at hy;rcases hy with rfl | rfl
  ·exact hg3 (hvg _ e).1
  ·exact(hvg _ e).2 rfl)
 have hn':Hid (vs'.n=σ.slots.length+1):=hZ (xfh hrow')
 have hv3:∀ k,vs'.v.ownBlock=some k→k≠g∧(vs.v.ownBlock=some k∨w0.heap.size≤k):=by
  intro k hk;have hgl:g<w0.heap.size:=hbg.lt;rcases hv1 k hk with h1 | h1
  ·exact⟨(hvg k h1).2,.inl h1⟩
  ·exact⟨by omega,.inr (by omega)⟩
 refine hK _ _ (fun _=>HL) ?_;clear hK K hfT hgr hv1 hrow hb;refine Xh ?_;intro K hK;refine xbj (xdn _ rfl _ rfl) ?_;refine X3y ?_;clear hK K;intro K hK;refine xbj (xaf xfv _ rfl _ rfl) ?_;refine X3y ?_;clear hK K;intro K hK;refine xcn sc316.i _ _ rfl g 0 318 _ vs'.v rfl rfl rfl (HL.blk (.tail _ (.head _))) (by simp) ?_;refine X3r ?_;clear hK K;replace HL:=HL.putAt (i:=1) rfl ((HL.blk (.tail _ (.head _))).set_ 0 vs'.v) (xdl _ _ _ _);simp only[qg,qh] at HL;have hrow2:=xbm (w':=w1.setCell ⟨g,0,none⟩ vs'.v) hrow' (fun k hk=>Below.heap_setCell w1 ⟨g,0,none⟩ vs'.v k (hv3 k hk).1);have hlt2:∀ k,vs'.v.ownBlock=some k→k<(w1.setCell ⟨g,0,none⟩ vs'.v).heap.size:=fun k hk=>by simpa using hv2 k hk
 clear hrow' hv2;generalize World.setCell w1 _ _=w2 at *;refine Xa ?_;go_upto_region 13 with fail;refine X14 ?_;refine xaa rfl _ (xaf xfv _ rfl _ rfl) ?_;refine X6 ?_;refine xaa rfl _ (xai sc316 HL _ rfl _ _ rfl _ _ _ (.tail _ (.head _)) (rfl)) ?_;refine X6 ?_;refine xaa rfl _ (xb3 underlying316 _ rfl _ _ _ rfl) ?_;refine X1g ?_;go_wp2_with fail;go_ret2;obtain⟨hfree,hfn⟩:=hHE.out;have hg1:=HL.blk (.tail _ (.head _))
 have hfin:Fr (SbS g vs vf) w0 w2:=by
  refine⟨HL.fr.os,HL.fr.tape,HL.fr.output,HL.fr.size,fun k hk hn=>HL.heap ⟨hk,?_⟩⟩;rintro(rfl | e)
  ·exact hn (.inl rfl)
  ·exact hn (.inr (.inl e))
 have hs2:(σ.takeN ⟨x,1,val⟩).slots.length=σ.slots.length+1:=by simp[Sb.takeN]
 have hvf:vf.v=.slice vf.A 0 vf.c:=by unfold Sv.v;rw[hfn]
 have hag:=HH.out.again (σ':=σ.takeN ⟨x,1,val⟩) (vs':=vs') (vf':=vf) hfin (by
  rintro k (rfl | e | e)
  ·exact .inl (.inl rfl)
  ·rcases (hv3 k e).2 with h1 | h1
   ·exact .inl (.inr (.inl h1))
   ·exact .inr h1
  ·exact .inl (.inr (.inr e))) (by
  rintro k (rfl | e | e)
  ·exact hg1.lt
  ·exact hlt2 k e
  ·exact Nat.lt_of_lt_of_le (HH.out.lt k (HH.out.own k (.inr (.inr e)))) HL.fr.size) (by rw[hvf];exact hg1) (by
   rw[hs2];have e1:rowS (σ.takeN ⟨x,1,val⟩)=rowS σ++(x.slo 1).cells:=by simp[rowS,Sb.takeN,En.cells]
   rw[e1]
   exact hrow2) (xbm HH.out.free (fun k hk=>HL.heap ⟨HH.out.lt k (HH.out.own k (.inr (.inr hk))),by
    rintro(e | e)
    ·exact xqu HH.out hk e
    ·exact HH.out.vfvs hk e⟩)) (Sb.takeN_ok HH.out.ok _ hfree hroom) (by
   intro e he;rcases List.mem_append.1 he with he | he
   ·exact .inl he
   ·simp at he
    subst he;refine .inr ⟨?_,hx.2⟩;have h1:=hx.fr hfin (fun k hk=>hk);refine⟨h1.1.len,h1.1.cap,h1.1.max,h1.1.rd,fun ad e hk=>?_⟩;rcases hk with h2 | h2 | h2
    ·exact h1.1.far ad e (.inl h2)
    ·rcases (hv3 _ h2).2 with h3 | h3
     ·exact h1.1.far ad e (.inr (.inl h3))
     ·have:=HH.out.lt _ (hx.2 ad e);omega
    ·exact h1.1.far ad e (.inr (.inr h2)))
 refine⟨_,vs',?_,hag.1,hag.2,hfin⟩;rw[hn'.out];rfl
def Sb.take(σ:Sb)(e:En):Sb:=match σ.free.getLast? with
 | some k=>σ.takeF (k - 1) e
 | none=>σ.takeN e
def Sb.next(σ:Sb):Nat:=match σ.free.getLast? with
 | some k=>k
 | none=>σ.slots.length+1
theorem xjr(h:SbP D w g σ vs vf)(x:Nd)(val:LU)(hroom:σ.used<σ.room)(hx:ValOk D w g vs vf x.vs val) :
  Calls prog 208 #[pG g,.agg x.cells.toArray] w fun e w'=>∃ D' vs' vf',e=.returned (.tuple #[iV (σ.next:Int),iV 0])∧SbP D' w' g (σ.take ⟨x,1,val⟩) vs' vf'∧Stp D w D' w'∧Fr (SbS g vs vf) w w':=by
 unfold Sb.take Sb.next
 cases hl:σ.free.getLast? with
 | none =>
  have hf:σ.free = []:=List.getLast?_eq_none_iff.1 hl;refine(xpb h x val hf hroom hx).mono ?_;rintro e w' ⟨D',vs',rfl,h1,h2,h3⟩;exact⟨D',vs',vf,rfl,h1,h2,h3⟩
 | some k =>
  obtain⟨fl,hf⟩:=List.getLast?_eq_some_iff.1 hl;have hk:=(h.ok.fr k (by rw[hf];simp)).1;have hk1:k=(k - 1)+1:=by omega
  have hf':σ.free=fl++[(k - 1)+1]:=by rw[← hk1];exact hf
  refine(xnk h x val fl (k - 1) hf' hroom hx).mono ?_;rintro e w' ⟨D',vf',rfl,h1,h2,h3⟩;refine⟨D',vs,vf',?_,h1,h2,h3⟩;rw[← hk1]
theorem SbP.more{D':Nat→Prop}(h:SbP D w g σ vs vf)(h1:∀ k,D k→D' k)(h2:∀ k,D' k→k<w.heap.size):SbP D' w g σ vs vf :=
 ⟨h.blk,h.slots,h.free,h.ok,fun k hk=>h1 k (h.own k hk),h2,fun e he=>⟨(h.vals e he).1,fun ad hd=>h1 _ ((h.vals e he).2 ad hd)⟩⟩
theorem sb_new(r:Nat)(h1:1≤r)(h2:r≤65536):Calls prog 151 #[iV r] w fun e w'=>∃ g,e=.returned (.tuple #[pG g,iV 0])∧w.heap.size≤g∧SbP (· = g) w' g ⟨[],[],r,0⟩ Sv.nil Sv.nil∧Bw w w':=by
 have k1:decide ((r:Int)<1)=false:=by simp;omega
 have k2:decide (65536<(r:Int))=false:=by simp;omega
 obtain⟨w0,rfl,HL⟩:=lS w;go_enter func151,ntmps151;go_upto_region 0 with fail;refine X2y ?_;go_upto_region 1 with fail;refine X1o ?_;refine X29 ?_;go_upto_region 3 with fail;refine X12 ?_;refine xaa rfl _ (xbp bs318 _ rfl _ (by exact bd318_32 _)) ?_;refine X6 ?_;refine xcs rfl _ rfl HL _ rfl ?_;clear HL;intro g12 w HL;refine Xu ?_;refine X1f ?_;go_wp2_with fail;go_ret2;have hg:=HL.blk (.head _);refine⟨g12,rfl,?_,⟨hg,World.ownsRow_nil _ _ _ _,World.ownsRow_nil _ _ _ _,⟨h1,h2,rfl,Nat.zero_le _,fun n hn=>by simp at hn⟩,?_,?_,fun e he=>by simp at he⟩,HL.below⟩
 ·have:=(HL.own _ (.head _)).1
  exact Nat.not_lt.1 this
 ·rintro k (rfl | e | e)
  ·rfl
  ·cases e
  ·cases e
 ·rintro k rfl;exact hg.lt
end
structure StP (D:Nat→Prop)(w:World)(gs g:Nat)(σ:Sb)(vs vf:Sv):Prop where
 blk:Blk w gs 256 [pG g]
 own:D gs
 sb:SbP D w g σ vs vf
def StW(D:Nat→Prop)(w:World)(gs:Nat)(σ:Sb):Prop:=∃ g vs vf,StP D w gs g σ vs vf
def Got(σ:Sb)(h:Int)(n:Nd)(val:LU)(ok:Bool):Prop :=
 (ok=true∧∃ i:Nat,h=(i:Int)+1∧∃ hi:i<σ.slots.length,σ.slots[i].nd=n∧σ.slots[i].val=val∧σ.slots[i].count≠0)∨(ok=false∧h<1∧n=Nd.z∧val = [])
section
variable {D:Nat→Prop}{w w':World}{gs g:Nat}{σ:Sb}{vs vf:Sv}
theorem StP.fr(h:StP D w gs g σ vs vf){T:Nat→Prop}(hf:Fr T w w')(hT:∀ k,D k→¬ T k):StP D w' gs g σ vs vf:=⟨h.blk.fr hf (hT gs h.own),h.own,h.sb.fr hf hT⟩
theorem StP.below(h:StP D w gs g σ vs vf)(hb:Bw w w'):StP D w' gs g σ vs vf:=h.fr (T:=fun _=>False) (Fr.of_below hb) (fun _ _ f=>f)
theorem StW.below(h:StW D w gs σ)(hb:Bw w w'):StW D w' gs σ:=by
 obtain⟨g,vs,vf,h⟩:=h;exact⟨g,vs,vf,h.below hb⟩
theorem StW.fr(h:StW D w gs σ){T:Nat→Prop}(hf:Fr T w w')(hT:∀ k,D k→¬ T k):StW D w' gs σ:=by
 obtain⟨g,vs,vf,h⟩:=h;exact⟨g,vs,vf,h.fr hf hT⟩
theorem StP.c(h:StP D w gs g σ vs vf):w.cell? ⟨gs,0,none⟩=some (pG g):=by rw[h.blk.cell];rfl
theorem StP.sbs(h:StP D w gs g σ vs vf) : ¬ SbS g vs vf gs:=by
 rintro(e | e | e)
 ·rw[e] at h
  exact h.blk.ne h.sb.blk (by decide) rfl
 ·obtain⟨c,hc⟩:=xb4 h.sb.slots e
  exact h.blk.ne hc (by decide) rfl
 ·obtain⟨c,hc⟩:=xb4 h.sb.free e
  exact h.blk.ne hc (by decide) rfl
theorem xe8(h:StW D w gs σ):Calls prog 132 #[pG gs] w fun e w'=>e=.returned (.bool false)∧w=w':=by
 obtain⟨g,vs,vf,h⟩:=h;have hc:=h.c;have HL:=Loc.start w;clear h;go_enter func132,ntmps132;go_upto_region 0 with fail;refine X1j ?_;go_upto_region 1 with fail;refine X1o ?_;refine X1p ?_;refine xac rfl _ (xaf xnf _ rfl _ rfl) ?_;refine X6 ?_;refine xac rfl _ (xdr sc252 HL _ rfl _ rfl _ (by with_reducible assumption)) ?_;refine X6 ?_;refine X1s ?_;refine X1t ?_;go_wp2_with fail;go_ret;exact⟨rfl,rfl⟩
theorem xfy(h:StW D w gs σ)(z:Int)(n:Nd)(val:LU)(ok:Bool)(hG:Got σ z n val ok):Calls prog 133 #[pG gs,iV z] w (oB w (.tuple #[.agg n.cells.toArray,.bool ok])):=by
 have HW:=hZ h;obtain⟨g,vs,vf,h⟩:=h;have hc:=h.c;have HH:=hZ h.sb;clear h;have HL:=Loc.start w;rcases hG with⟨rfl,i,hz,hi,hn,hv,hct⟩ | ⟨rfl,hz,hn,hv⟩
 ·subst hn
  have HZ:=hZ (And.intro hz hct);clear hz hct;go_enter func133,ntmps133;go_upto_region 0 with fail;refine Xt ?_;refine X2g ?_;clear HL;intro g4 w HL;go_upto_region 1 with fail;refine X3z ?_;intro K hK;(with_reducible refine(xe8 (HW.out.below HL.below)).mono ?_);rintro e w ⟨rfl,rfl⟩;refine X20 ?_;clear hK K;go_upto_region 3 with fail;refine X40 ?_;refine X41 ?_;refine X42 ?_;intro K hK;refine xad cf192 rfl _ rfl ?_;refine X1w ?_;(with_reducible refine(xqt (HH.out.below HL.below) z i HZ.out.1 hi HZ.out.2).mono ?_);refine X4f ?_;clear hK K;intro g6 w HL;go_upto_region 4 with fail;refine Xt ?_;refine X2r ?_;refine X15 ?_;refine X1k ?_;refine X2o ?_;refine X4c ?_;clear HL;intro w HL;go_wp2_with fail;refine Xc ?_;refine X2q ?_;exact⟨rfl,HL.below⟩
 ·subst hn
  go_enter func133,ntmps133;go_upto_region 0 with fail;refine Xt ?_;refine X2g ?_;clear HL;intro g4 w HL;go_upto_region 1 with fail;refine X3z ?_;intro K hK;(with_reducible refine(xe8 (HW.out.below HL.below)).mono ?_);rintro e w ⟨rfl,rfl⟩;refine X20 ?_;clear hK K;go_upto_region 3 with fail;refine X40 ?_;refine X41 ?_;refine X42 ?_;intro K hK;refine xad cf192 rfl _ rfl ?_;refine X1w ?_;(with_reducible refine(xui (HH.out.below HL.below) z hz).mono ?_);refine X4f ?_;clear hK K;intro g6 w HL;go_upto_region 4 with fail;refine Xt ?_;refine X2r ?_;refine X15 ?_;refine X1k ?_;refine X2o ?_;refine X4c ?_;clear HL;intro w HL;go_wp2_with fail;refine Xc ?_;refine X2q ?_;exact⟨rfl,HL.below⟩
theorem xcy(h:StW D w gs σ)(z:Int)(n:Nd)(val:LU)(ok:Bool)(hG:Got σ z n val ok):Calls prog 136 #[pG gs,iV z] w (oB w (.int .u8 (n.kind:Int))):=by
 have HL:=Loc.start w;go_enter func136,ntmps136;go_upto_region 0 with fail;refine X1j ?_;go_upto_region 1 with fail;refine X4h ?_;intro K hK;refine X4i ?_;refine X4j ?_;clear hK K;intro g5 w HL;go_upto_region 2 with fail;refine X4l ?_;refine X1a ?_;go_wp2_with fail;go_ret;exact⟨rfl,HL.below⟩
theorem st_size(h:StW D w gs σ)(z:Int)(n:Nd)(val:LU)(ok:Bool)(hG:Got σ z n val ok):Calls prog 155 #[pG gs,iV z] w (oB w (.int .i64 n.size)):=by
 have HL:=Loc.start w;go_enter func155,ntmps155;go_upto_region 0 with fail;refine X1j ?_;go_upto_region 1 with fail;refine X4h ?_;intro K hK;refine X4i ?_;refine X4j ?_;clear hK K;intro g5 w HL;go_upto_region 2 with fail;refine Xt ?_;refine xaa rfl _ (xaf xse _ rfl _ rfl) ?_;refine X6 ?_;refine xaa rfl _ (xai sc3 HL _ rfl _ _ rfl _ _ _ (.head _) (Nd.g_size _)) ?_;refine X1a ?_;go_wp2_with fail;go_ret;exact⟨rfl,HL.below⟩
theorem st_held(h:StW D w gs σ)(z:Int)(n:Nd)(val:LU)(ok:Bool)(hG:Got σ z n val ok):Calls prog 207 #[pG gs,iV z] w (oB w (.int .i64 n.held)):=by
 have HL:=Loc.start w;go_enter func207,ntmps207;go_upto_region 0 with fail;refine X1j ?_;go_upto_region 1 with fail;refine X4h ?_;intro K hK;refine X4i ?_;refine X4j ?_;clear hK K;intro g5 w HL;go_upto_region 2 with fail;refine Xt ?_;refine X4m ?_;refine X4n ?_;refine X1a ?_;go_wp2_with fail;go_ret;exact⟨rfl,HL.below⟩
theorem xgd(h:StW D w gs σ)(z:Int)(n:Nd)(val:LU)(ok:Bool)(hG:Got σ z n val ok):Calls prog 138 #[pG gs,iV z] w (oB w (.tuple #[.int .i64 n.left,.int .i64 n.right])):=by
 have HL:=Loc.start w;go_enter func138,ntmps138;go_upto_region 0 with fail;refine X2y ?_;go_upto_region 1 with fail;refine X4h ?_;intro K hK;refine X4i ?_;refine X4f ?_;clear hK K;intro g6 w HL;go_upto_region 2 with fail;refine rB (Loc.P HL) [] [] [0,1,2,3,4,5] 0 ?_;refine X3a ?_;intro HL;refine xab rfl rfl HL (fun W hW=>xaf xsc _ rfl _ rfl) ?_;refine X6 ?_;refine xab rfl rfl HL (fun W hW=>xai sc3 hW _ rfl _ _ rfl _ _ _ (.head _) (Nd.g_left _)) ?_;refine X6 ?_;refine xab rfl rfl HL (fun W hW=>xaf xsd _ rfl _ rfl) ?_;refine X6 ?_;refine xab rfl rfl HL (fun W hW=>xai sc3 hW _ rfl _ _ rfl _ _ _ (.head _) (Nd.g_right _)) ?_;refine X6 ?_;refine X4q ?_;go_wp2_with fail;go_ret2;exact⟨rfl,HL.below⟩
theorem xij(h:StW D w gs σ)(z:Int)(n:Nd)(val:LU)(ok:Bool)(hG:Got σ z n val ok):Calls prog 148 #[pG gs,iV z] w (oB w (.agg n.key.c.toArray)):=by
 have HL:=Loc.start w;go_enter func148,ntmps148;go_upto_region 0 with fail;refine Xt ?_;refine xah zr24 rfl rfl HL ?_;clear HL;intro g4 w HL;refine X1z ?_;go_upto_region 1 with fail;refine X4h ?_;intro K hK;refine X4i ?_;refine X4j ?_;clear hK K;intro g5 w HL;go_upto_region 2 with fail;refine X4r ?_;refine X4s ?_;refine X6 ?_;refine xbo ag24 rfl _ _ rfl HL 1 _ _ _ _ rfl rfl rfl (D32.cl _) (D32.cl _) (D32.c1 _) ?_;refine X34 ?_;clear HL;intro w HL;go_wp2_with fail;refine Xc ?_;refine bodyPost_ret (xb8 rfl ag24 _ _ g4 24 _ rfl (HL.blk (.tail _ (.head _))) (D32.cl _)) rfl ?_;exact⟨rfl,HL.below⟩
theorem xpc(h:StW D w gs σ)(z:Int)(n:Nd)(val:LU)(hG:Got σ z n val true):Calls prog 243 #[pG gs,iV z] w (oB w (.int .i64 n.depth)):=by
 have HL:=Loc.start w;go_enter func243,ntmps243;go_upto_region 0 with fail;refine X1j ?_;go_upto_region 1 with fail;refine X4h ?_;intro K hK;refine X4t ?_;refine X4j ?_;clear hK K;intro g5 w HL;go_upto_region 2 with fail;refine X2n ?_;go_upto_region 4 with fail;refine Xt ?_;refine xaa rfl _ (xaf xnd _ rfl _ rfl) ?_;refine X6 ?_;refine xaa rfl _ (xai sc3 HL _ rfl _ _ rfl _ _ _ (.head _) (Nd.g_depth _)) ?_;refine X1a ?_;go_wp2_with fail;go_ret;exact⟨rfl,HL.below⟩
theorem xfi(h:StW D w gs σ)(z:Int)(n:Nd)(val:LU)(hG:Got σ z n val true):Calls prog 83 #[pG gs,iV z] w (oB w (.agg n.dig.c.toArray)):=by
 have k1:(z==0)=false:=by
  rcases hG with⟨_,i,hz,_⟩ | ⟨e,_⟩
  ·simp;omega
  ·cases e
 have HL:=Loc.start w;go_enter func83,ntmps83;go_upto_region 0 with fail;refine Xt ?_;refine xah zr23 rfl rfl HL ?_;clear HL;intro g4 w HL;refine X1z ?_;go_upto_region 1 with fail;refine X3z ?_;intro K hK;refine X4u ?_;rintro e w ⟨rfl,rfl⟩;refine X20 ?_;clear hK K;go_upto_region 3 with fail;refine X2n ?_;go_upto_region 5 with fail;refine X4h ?_;intro K hK;refine X4t ?_;refine X4j ?_;clear hK K;intro g5 w HL;go_upto_region 6 with fail;refine Xt ?_;refine xaa rfl _ (xaf fa230_0 _ rfl _ rfl) ?_;refine X6 ?_;refine xaa rfl _ (xaf fa228_0 _ rfl _ rfl) ?_;refine X6 ?_;refine xaa rfl _ (xav ag23 HL _ rfl _ _ rfl _ _ _ (.head _) (Nd.g_dig _) (D32.cl _)) ?_;refine X6 ?_;refine X4v ?_;refine X34 ?_;clear HL;intro w HL;go_wp2_with fail;refine Xc ?_
 refine bodyPost_ret (xb8 rfl ag23 _ _ g4 23 _ rfl (HL.blk (.tail _ (.head _))) (D32.cl _)) rfl ?_;exact⟨rfl,HL.below⟩
theorem xfz(h:StW D w gs σ):Calls prog 83 #[pG gs,iV 0] w (oB w (.agg tagE.c.toArray)):=by
 have HL:=Loc.start w;go_enter func83,ntmps83;go_upto_region 0 with fail;refine Xt ?_;refine xah zr23 rfl rfl HL ?_;clear HL;intro g4 w HL;refine X1z ?_;go_upto_region 1 with fail;refine X3z ?_;intro K hK;refine X4u ?_;rintro e w ⟨rfl,rfl⟩;refine X20 ?_;clear hK K;go_upto_region 3 with fail;refine X2n ?_;go_upto_region 4 with fail;refine Xt ?_;refine X1u ?_;intro K hK;refine X4w ?_;refine X4x ?_;refine X4y ?_;clear hK K;intro w HL;refine X4z ?_;refine X34 ?_;clear HL;intro w HL;go_wp2_with fail;refine Xc ?_;refine bodyPost_ret (xb8 rfl ag23 _ _ g4 23 _ rfl (HL.blk (.head _)) (D32.cl _)) rfl ?_;exact⟨rfl,HL.below⟩
theorem xi8(h:StW D w gs σ):Calls prog 96 #[pG gs] w fun e w'=>e=.returned (iV (σ.used:Int))∧w=w':=by
 have HW:=hZ h;obtain⟨g,vs,vf,h⟩:=h;have hc:=h.c;have HH:=hZ h.sb;clear h;have HL:=Loc.start w;go_enter func96,ntmps96;go_upto_region 0 with fail;refine X1j ?_;go_upto_region 1 with fail;refine X3z ?_;intro K hK;(with_reducible refine(xe8 HW.out).mono ?_);rintro e w ⟨rfl,rfl⟩;refine X20 ?_;clear hK K;go_upto_region 3 with fail;refine X40 ?_;refine X41 ?_;refine X50 ?_;intro K hK;refine xad cf156 rfl _ rfl ?_;refine X1w ?_;(with_reducible refine(sb_len HH.out).mono ?_);rintro e w ⟨rfl,rfl⟩;refine X2m ?_;clear hK K;go_wp2_with fail;go_ret;exact⟨rfl,rfl⟩
theorem xjs(h:StW D w gs σ):Calls prog 142 #[pG gs] w fun e w'=>e=.returned (iV (σ.room:Int))∧w=w':=by
 have HW:=hZ h;obtain⟨g,vs,vf,h⟩:=h;have hc:=h.c;have HH:=hZ h.sb;clear h;have HL:=Loc.start w;go_enter func142,ntmps142;go_upto_region 0 with fail;refine X1j ?_;go_upto_region 1 with fail;refine X3z ?_;intro K hK;(with_reducible refine(xe8 HW.out).mono ?_);rintro e w ⟨rfl,rfl⟩;refine X20 ?_;clear hK K;go_upto_region 3 with fail;refine X40 ?_;refine X41 ?_;refine X50 ?_;intro K hK;refine xad cf206 rfl _ rfl ?_;refine X1w ?_;(with_reducible refine(sb_room HH.out).mono ?_);rintro e w ⟨rfl,rfl⟩;refine X2m ?_;clear hK K;go_wp2_with fail;go_ret;exact⟨rfl,rfl⟩
end
section
variable {D:Nat→Prop}{w w':World}{gs g:Nat}{σ:Sb}{vs vf:Sv}
theorem StP.sw(h:StP D w gs g σ vs vf):StW D w gs σ:=⟨g,vs,vf,h⟩
theorem ValOk.below{x:Sv}{l:LU}(h:ValOk D w g vs vf x l)(hb:Bw w w'):ValOk D w' g vs vf x l:=h.fr (T:=fun _=>False) (Fr.of_below hb) (fun _ f=>f.elim)
theorem Got.val(h:StW D w gs σ){z:Int}{n:Nd}{val:LU}{ok:Bool}(hG:Got σ z n val ok):Rd w n.vs.A (bvs val)∧val.length=n.vs.n∧n.vs.n≤n.vs.c:=by
 obtain⟨g,vs,vf,h⟩:=h;rcases hG with⟨rfl,i,hz,hi,rfl,rfl,hct⟩ | ⟨rfl,hz,rfl,rfl⟩
 ·obtain⟨h1,h2⟩:=h.sb.vals _ (List.getElem_mem hi)
  exact⟨h1.rd,h1.len,h1.cap⟩
 ·exact⟨Rd.nil _ _,rfl,Nat.le_refl _⟩
theorem xks(h:StW D w gs σ)(z:Int)(n:Nd)(val:LU)(ok:Bool)(hG:Got σ z n val ok)(hv:val.length≤1024):Calls prog 153 #[pG gs,iV z] w fun e w'=>∃ v,e=.returned v∧OwnB w' w.heap.size 5 v val∧Bw w w':=by
 obtain⟨hr,hl,hc⟩:=hG.val h;have hl':=hZ hl;clear hl;obtain⟨w0,rfl,HL⟩:=lS w;go_enter func153,ntmps153;go_upto_region 0 with fail;refine X1j ?_;go_upto_region 1 with fail;refine X4h ?_;intro K hK;refine X4i ?_;refine X4j ?_;clear hK K;intro g5 w HL;go_upto_region 2 with fail;refine Xt ?_;refine xaa rfl _ (xaf fa230_4 _ rfl _ rfl) ?_;refine X6 ?_;refine xaa rfl _ (xai sc25 HL _ rfl _ _ rfl _ _ _ (.head _) (Nd.g_vs _)) ?_;refine X6 ?_;refine xdd bt rfl _ _ rfl w0.heap.size (.slice none 0 0) [] rfl (OwnB.nil _ _ _) n.vs.A n.vs.n n.vs.c val rfl hl'.out (HL.rdO hr) (by have:=hl'.out;simp;omega) HL.fr.size ?_;intro v1 w1 ho1 hg1 _;have hb1:Bw w0 w1:=HL.below.grown hg1 HL.fr.size (by intro k hk;cases hk);clear HL;refine X10 ?_;go_wp2_with fail;go_ret;exact⟨_,rfl,by simpa using ho1,hb1⟩
theorem xhn(h:StW D w gs σ):Calls prog 154 #[pG gs,iV 0] w fun e w'=>e=.returned (iV 0)∧w=w':=by
 have HL:=Loc.start w;go_enter func154,ntmps154;go_upto_region 0 with fail;refine X1j ?_;go_upto_region 1 with fail;refine X3z ?_;intro K hK;(with_reducible refine(xe8 h).mono ?_);rintro e w ⟨rfl,rfl⟩;refine X20 ?_;clear hK K;go_upto_region 3 with fail;refine X2n ?_;go_upto_region 4 with fail;refine X1j ?_;go_wp2_with fail;go_ret;exact⟨rfl,rfl⟩
theorem xjt(h:StW D w gs σ)(z:Int)(n:Nd)(val:LU)(hG:Got σ z n val true)(hd:n.kind=1∨(n.kind=2∧n.depth=0)):Calls prog 154 #[pG gs,iV z] w (oB w (iV 0)):=by
 have k1:(z==0)=false:=by
  rcases hG with⟨_,i,hz,_⟩ | ⟨e,_⟩
  ·simp;omega
  ·cases e
 have HL:=Loc.start w;rcases hd with hd | ⟨hd,hd2⟩
 ·have k2:((n.kind:Int)==2)=false:=by rw[hd];rfl
  clear hd;go_enter func154,ntmps154;go_upto_region 0 with fail;refine X1j ?_;go_upto_region 1 with fail;refine X3z ?_;intro K hK;refine X4u ?_;rintro e w ⟨rfl,rfl⟩;refine X20 ?_;clear hK K;go_upto_region 3 with fail;refine X2n ?_;go_upto_region 5 with fail;refine X4h ?_;intro K hK;refine X4t ?_;refine X4j ?_;clear hK K;intro g5 w HL;go_upto_region 6 with fail;refine X2n ?_;go_upto_region 8 with fail;refine X4l ?_;refine X51 ?_;refine no_implicit_lambda% (X52 ?_);go_upto_region 10 with fail;refine X1j ?_;go_wp2_with fail;go_ret;exact⟨rfl,HL.below⟩
 ·have k2:((n.kind:Int)==2)=true:=by rw[hd];rfl
  have k3:(n.depth != 0)=false:=by rw[hd2];rfl
  clear hd hd2;go_enter func154,ntmps154;go_upto_region 0 with fail;refine X1j ?_;go_upto_region 1 with fail;refine X3z ?_;intro K hK;refine X4u ?_;rintro e w ⟨rfl,rfl⟩;refine X20 ?_;clear hK K;go_upto_region 3 with fail;refine X2n ?_;go_upto_region 5 with fail;refine X4h ?_;intro K hK;refine X4t ?_;refine X4j ?_;clear hK K;intro g5 w HL;go_upto_region 6 with fail;refine X2n ?_;go_upto_region 8 with fail;refine X4l ?_;refine X51 ?_;refine xac rfl _ (xaf xnd _ rfl _ rfl) ?_;refine X53 ?_;refine X2a ?_;go_upto_region 10 with fail;refine X1j ?_;go_wp2_with fail;go_ret;exact⟨rfl,HL.below⟩
def Sb.call(σ:Sb)(i:Nat)(hi:i<σ.slots.length)(by_:Int):Sb:=σ.put i ⟨{ σ.slots[i].nd with held:=σ.slots[i].nd.held+by_ },σ.slots[i].count,σ.slots[i].val⟩
theorem xdp(h:StP D w gs g σ vs vf)(z by_:Int)(i:Nat)(hz:z=(i:Int)+1)(hi:i<σ.slots.length)(hc:σ.slots[i].count≠0)(hb : -4611686018427387904≤σ.slots[i].nd.held+by_∧σ.slots[i].nd.held+by_≤4611686018427387904) :
  Calls prog 189 #[pG gs,iV z,iV by_] w fun e w'=>e=.returned (.tuple #[])∧StP D w' gs g (σ.call i hi by_) vs vf∧Fr (SbS g vs vf) w w':=by
 have hG:Got σ z σ.slots[i].nd σ.slots[i].val true:=.inl ⟨rfl,i,hz,hi,rfl,rfl,hc⟩;have HG:=hZ hG;have HZ:=hZ (And.intro hz hc);have HH:=hZ h;have hcs:=h.c;have HV:=hZ (xnh h.sb i hi);have HS:Hid (σ.slots[i].nd.held+by_=σ.slots[i].nd.held+by_):=hZ rfl;have HC:Hid (σ.call i hi by_=σ.put i ⟨{ σ.slots[i].nd with held:=σ.slots[i].nd.held+by_ },σ.slots[i].count,σ.slots[i].val⟩):=hZ rfl;clear hG hz hc h;obtain⟨w0,rfl,HL⟩:=lS w;go_enter func189,ntmps189;go_upto_region 0 with fail;refine X4h ?_;intro K hK;(with_reducible refine(xfy (HH.out.sw.below HL.below) z _ _ true HG.out).mono ?_);rintro e w ⟨rfl,hb'⟩;replace HL:=HL.next hb';clear hb';refine X54 ?_;clear hK K;refine X4e ?_;clear HL;intro g6 w HL;go_upto_region 1 with fail;refine X12 ?_;refine Xy ?_;go_upto_region 2 with fail;refine Xt ?_;refine X4m ?_
 refine X4n ?_;refine X15 ?_;refine xaa rfl _ (xa6 _ _ rfl _ _ _ rfl rfl HS.out (by omega)) ?_;refine X6 ?_;refine X4m ?_;refine X6 ?_;refine xa3 sc3 rfl _ _ rfl HL 0 _ _ _ _ _ _ rfl rfl rfl rfl (by rw[Nd.len];decide) (Nd.s_held _ _) ?_;refine X34 ?_;clear HL;intro w HL;refine X55 ?_;intro hB;refine X56 ?_;intro hgs;have hg6 : ¬ Old w0 g6:=(HL.own _ (.head _)).1;refine X57 ?_;intro HX;clear HL;have HL:=HX;clear HX;go_upto_region 3 with fail;refine rB (Loc.P HL) [] [6] [0,1,2,3,4,5,6] 0 ?_;refine X3e ?_;intro HL;refine X58 ?_;refine X6 ?_;refine X59 ?_;refine X3g ?_;refine X3p ?_;refine Xh ?_;intro K hK;refine xad cf232 rfl _ rfl ?_;refine X1w ?_
 (with_reducible refine(sb_set (HH.out.sb.below hB.drew) z i HZ.out.1 hi HZ.out.2 { σ.slots[i].nd with held:=σ.slots[i].nd.held+by_ } σ.slots[i].val (HV.out.below hB.drew)).mono ?_);rintro e w ⟨rfl,hsb,hf⟩
 replace HL:=HL.frame hf (fun k hk hd=>hd.2 hk) (by
  intro y hy e;simp at hy;subst hy
  exact hg6 (HH.out.sb.lt _ (HH.out.sb.own _ e)))
 refine X5a ?_;clear hK K;refine Xb ?_;go_wp2_with fail
 go_end0
 have hf0:Fr (SbS g vs vf) w0 w:=(Fr.of_below hB.drew).trans hf;rw[HC.out];exact⟨rfl,⟨HH.out.blk.fr hf0 HH.out.sbs,HH.out.own,hsb⟩,hf0⟩
theorem xi9(h:StW D w gs σ)(z by_:Int)(hz:z<1):Calls prog 189 #[pG gs,iV z,iV by_] w (oB w (.tuple #[])):=by
 have hG:Got σ z Nd.z [] false:=.inr ⟨rfl,hz,rfl,rfl⟩;have HL:=Loc.start w;go_enter func189,ntmps189;go_upto_region 0 with fail;refine X4h ?_;intro K hK;(with_reducible refine(xfy (h.below HL.below) z _ _ false hG).mono ?_);rintro e w ⟨rfl,hb'⟩;replace HL:=HL.next hb';clear hb';refine X54 ?_;clear hK K;refine X4e ?_;clear HL;intro g6 w HL;go_upto_region 1 with fail;refine X12 ?_;refine Xy ?_;go_wp2_with fail
 go_end0
 exact⟨rfl,HL.below⟩
end
section
variable {D:Nat→Prop}{w w':World}{gs g:Nat}{σ:Sb}{vs vf:Sv}
def Sb.hold(σ:Sb)(i:Nat)(hi:i<σ.slots.length):Sb:=σ.put i ⟨{ σ.slots[i].nd with held:=σ.slots[i].nd.held+1 },σ.slots[i].count+1,σ.slots[i].val⟩
theorem xb7(σ:Sb)(i:Nat)(e:En):(σ.put i e).slots.length=σ.slots.length:=by simp[Sb.put]
theorem put_get(σ:Sb)(i:Nat)(e:En)(hi:i<σ.slots.length):(σ.put i e).slots[i]'(by rw[xb7];exact hi)=e:=by simp[Sb.put]
theorem put_put(σ:Sb)(i:Nat)(e f:En):(σ.put i e).put i f=σ.put i f:=by simp[Sb.put]
theorem xju(h:StP D w gs g σ vs vf)(z:Int)(i:Nat)(hz:z=(i:Int)+1)(hi:i<σ.slots.length)(hc:0<σ.slots[i].count)(hmax:σ.slots[i].count<1073741824)(hb : -4611686018427387904≤σ.slots[i].nd.held∧σ.slots[i].nd.held≤4611686018427387900) :
  Calls prog 129 #[pG gs,iV z] w fun e w'=>e=.returned (iV 0)∧StP D w' gs g (σ.hold i hi) vs vf∧Fr (SbS g vs vf) w w':=by
 have HH:=hZ h;have hcs:=h.c;have HZ:=hZ hz
 have C:∀ u u':World,Hid (SbP D u' g (σ.put i ⟨σ.slots[i].nd,σ.slots[i].count+1,σ.slots[i].val⟩) vs vf→Fr (SbS g vs vf) u u'→StP D u gs g σ vs vf→Calls prog 189 #[pG gs,iV z,iV 1] u' fun e w'=>e=.returned (.tuple #[])∧StP D w' gs g (σ.hold i hi) vs vf∧Fr (SbS g vs vf) u' w'):=fun u u'=>hZ (fun hs hf hu=>by
  have hu':StP D u' gs g (σ.put i ⟨σ.slots[i].nd,σ.slots[i].count+1,σ.slots[i].val⟩) vs vf:=⟨hu.blk.fr hf hu.sbs,hu.own,hs⟩;have hi':i<(σ.put i ⟨σ.slots[i].nd,σ.slots[i].count+1,σ.slots[i].val⟩).slots.length:=by rw[xb7];exact hi
  have hg:=put_get σ i ⟨σ.slots[i].nd,σ.slots[i].count+1,σ.slots[i].val⟩ hi;have h1:=xdp hu' z 1 i hz hi' (by rw[hg];show σ.slots[i].count+1≠0;omega) (by rw[hg];show -4611686018427387904≤σ.slots[i].nd.held+1∧σ.slots[i].nd.held+1≤4611686018427387904;omega)
  have e:(σ.put i ⟨σ.slots[i].nd,σ.slots[i].count+1,σ.slots[i].val⟩).call i hi' 1=σ.hold i hi:=by
   unfold Sb.call Sb.hold;rw[hg,put_put]
  rw[e] at h1
  exact h1)
 clear h hz;obtain⟨w0,rfl,HL⟩:=lS w;go_enter func129,ntmps129;go_upto_region 0 with fail;refine X1j ?_;go_upto_region 1 with fail;refine X3z ?_;intro K hK;(with_reducible refine(xe8 HH.out.sw).mono ?_);rintro e w ⟨rfl,rfl⟩;refine X20 ?_;clear hK K;go_upto_region 3 with fail;refine X40 ?_;refine X41 ?_;refine X42 ?_;intro K hK;refine xad cf188 rfl _ rfl ?_;refine X1w ?_;(with_reducible refine(sb_hold HH.out.sb z i HZ.out hi hc hmax).mono ?_);rintro e w ⟨rfl,hs1,hf1⟩;clear HL;refine X2m ?_;clear hK K;go_upto_region 4 with fail;refine X2n ?_;obtain⟨w1,rfl⟩:=eW w;go_upto_region 6 with fail;refine X5b ?_;intro K hK;(with_reducible refine((C _ _).out hs1 hf1 HH.out).mono ?_);rintro e w ⟨rfl,hs2,hf2⟩;refine X20 ?_;clear hK K;go_upto_region 7 with fail;refine X1j ?_;go_wp2_with fail;go_ret;exact⟨rfl,hs2,hf1.trans hf2⟩
theorem fit_yes(n:Nd)(d b:Nat)(hd:d<256)(hb:(tb n.key.l d).toNat=b)(hk:n.kind=2→n.depth=(d:Int)+1) :
  Calls prog 250 #[.agg n.cells.toArray,iV d,iV b] w (oB w (.bool true)):=by
 have C:=fun u=>hZ (xih u n.key d hd)
 rw[hb] at C;have HL:=Loc.start w;clear hb;by_cases h2:n.kind=2
 ·have hk2:=hk h2
  have k2:((n.kind:Int)==2)=true:=by rw[h2];rfl
  have k3:(n.depth != (d:Int)+1)=false:=by rw[hk2];simp
  have hd1:Hid ((d:Int)+1=(d:Int)+1):=hZ rfl;clear hk hk2 h2;go_enter func250,ntmps250;go_upto_region 0 with fail;refine X39 ?_;clear HL;intro g3 w HL;refine X1a ?_;go_upto_region 1 with fail;refine X4l ?_;refine X51 ?_;refine xac rfl _ (xaf xnd _ rfl _ rfl) ?_;refine X53 ?_;refine X26 ?_;refine xac rfl _ (xa6 _ _ rfl _ _ _ rfl rfl hd1.out (by omega)) ?_;refine X2a ?_;go_upto_region 3 with fail;refine X4r ?_;refine X4s ?_;refine X42 ?_;intro K hK;refine X5e ?_;refine X45 ?_;clear hK K;intro w HL;refine X15 ?_;refine X1t ?_;go_wp2_with fail;go_ret;exact⟨by first | rfl | simp,HL.below⟩
 ·have k2:((n.kind:Int)==2)=false:=by simp;omega
  clear hk h2;go_enter func250,ntmps250;go_upto_region 0 with fail;refine X39 ?_;clear HL;intro g3 w HL;refine X1a ?_;go_upto_region 1 with fail;refine X4l ?_;refine X51 ?_;refine no_implicit_lambda% (X2d ?_);refine no_implicit_lambda% (X2b ?_);refine X27 ?_;go_upto_region 3 with fail;refine X4r ?_;refine X4s ?_;refine X42 ?_;intro K hK;refine X5e ?_;refine X45 ?_;clear hK K;intro w HL;refine X15 ?_;refine X1t ?_;go_wp2_with fail;go_ret;exact⟨by first | rfl | simp,HL.below⟩
end
end Go.Proofs.YtkjjdgnkelchfaaGreat
