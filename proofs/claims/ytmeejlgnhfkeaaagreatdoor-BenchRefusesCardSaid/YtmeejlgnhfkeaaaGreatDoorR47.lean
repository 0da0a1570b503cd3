/- Parts. -/
import Derived.Test.YtmeejlgnhfkeaaaGreatDoorR46
import Derived.Test.YtmeejlgnhfkeaaaGreatDoorR40
import Derived.Test.YtmeejlgnhfkeaaaGreatDoorR22
namespace Go.Proofs.YtmeejlgnhfkeaaaGreatDoor
open Go.RowKit Go.Proofs.Tryz
set_option maxRecDepth 100000
set_option maxHeartbeats 4000000
theorem zvv (l:List UInt8) (hl:l.length≤1000) (w:World) (R:Ending→World→Prop)
  (hR:∀ w' v,Grow w w'→w'.ownsRow w.heap.size 9 1 v ((wds l).map tb).length (((wds l).map tb).flatMap encTx)→R (.returned v) w') :
  Calls Tryz.prog 72 #[.string (tb l)] w R:=by
 have HR:=jH hR;clear hR
 go_enter func72,ntmps72
 have HTS:=jH (zck l);go_wp2_with fail
 go_loopw [3,4,5] (fun s3 s4 s5 wr=>∃ (L:List (List UInt8)) (b i:Nat) (va:Option Addr) (vc:Nat),s3=.slice va L.length vc∧s4=.int .i64 b∧s5=.int .i64 i∧b≤i∧i≤l.length+1∧L.length≤i∧Grow w wr ∧
   wr.ownsRow w.heap.size 9 1 (.slice va L.length vc) (L.map tb).length ((L.map tb).flatMap encTx)∧(i≤l.length→L=wdsI (l.take i)∧(l.take i).drop b=wdsL (l.take i))∧(l.length<i→L=wds l)) (fun _ _ s5 _=>l.length+1 - (intOf s5).toNat)
 case atStart=>exact ⟨[],0,0,none,0,rfl,rfl,rfl,Nat.le_refl _,Nat.zero_le _,Nat.le_refl _,Grow.refl _,World.ownsRow_nil _ _ _ _,fun _=>⟨rfl,rfl⟩,fun h=>absurd h (Nat.not_lt_zero _)⟩
 case round=>
  obtain ⟨L,b,i,va,vc,rfl,rfl,rfl,hbi,hi,hLi,hg,ho,hA,hB⟩:=hrel;have HO:=jH ho;have HG:=jH hg;have HA:=jH hA;have HB:=jH hB;clear ho hg hA hB;by_cases hin:i≤l.length;rotate_left
  ·have hiz:¬ (i:Int)≤((tb l).size:Int):=by have:=HTS.out;omega
   obtain rfl:L=wds l:=HB.out (by omega)
   have HF:=jH (HR.out wr _ HG.out (by simpa [List.length_map] using HO.out))
   go_wp2_with fail;exact HF.out
  have hiz:(i:Int)≤((tb l).size:Int):=by have:=HTS.out;omega
  have hex:=zif l b i;obtain ⟨e1,e2⟩:=HA.out hin;rw [e2] at hex;have HEX:=jH hex;have hWD:L++[wdsL (l.take i)]=wds (l.take i):=by rw [e1];exact (zjs _).symm
  have HWD:=jH hWD;have HE1:=jH e1;have HE2:=jH e2;clear hex hWD e1 e2;have hbs:b≤i:=hbi;have his2:i≤(tb l).size:=by have:=HTS.out;omega
  have hbz:¬ ((b:Int)<0∨(i:Int)<(b:Int)∨((tb l).size:Int)<(i:Int)):=by have:=HTS.out;omega
  by_cases hend:i=l.length
  ·obtain rfl:i=(tb l).size:=by rw [HTS.out];exact hend
   have HEND:=jH hend;clear hend;go_wp2_with (at_builtin;refine Classical.byContradiction (fun hcon=>?_));refine hcon ?_;clear hcon;rw [HEX.out];refine zad _ rfl (.tmp 22) (.tmp 27) 23 rfl w.heap.size 9 underlying23 znl rfl (by decide) (by decide) encTx zbi zcz (.slice va L.length vc) (L.map tb) rfl (((Grow.refl wr).alloc _).owns HO.out) _ (tb (wdsL (l.take (tb l).size))) 1 rfl (zbj wr (encTx (tb (wdsL (l.take (tb l).size)))) 9) (by rw [List.length_map];omega) (by have:=HG.out.sz;simp;omega) ?_
   intro v9 w9 hown9 hgr9;have hH9:Grow w w9:=zae (((Grow.refl wr).alloc (.cells (encTx (tb (wdsL (l.take (tb l).size)))).toArray 9)).owns HO.out) hgr9 (Nat.le_refl _) (by have:=HG.out.sz;simp;omega) (HG.out.alloc _)
   obtain ⟨a9,c9,rfl⟩:∃ a c,v9=.slice a (L.length+1) c:=by
    rcases hown9.2 with ⟨hv,h0⟩ | ⟨g,cap,cur,hv,_⟩
    ·simp at h0
    ·exact ⟨some ⟨g,0,none⟩,cap,by rw [hv];simp⟩
   have HW9:=jH hown9;have HH9:=jH hH9;clear hown9 hgr9 hH9;go_wp2_with fail;go_roundw
   case rel=>exact ⟨L++[wdsL (l.take (tb l).size)],(tb l).size+1,(tb l).size+1,a9,c9,by rw [List.length_append,List.length_singleton],by go_num,by go_num,Nat.le_refl _,by omega,by rw [List.length_append,List.length_singleton];omega,HH9.out,by simpa using HW9.out,fun h=>by have:=HEND.out;omega,fun _=>by rw [HWD.out,HEND.out,List.take_length]⟩
   case measure=>simp [intOf];omega
  have hez:((i:Int) == ((tb l).size:Int))=false:=by rw [beq_eq_false_iff_ne];have:=HTS.out;omega
  have his:i<(tb l).size:=by have:=HTS.out;omega
  have hgt:=ziz l i his;obtain ⟨c,hc⟩:∃ c,(tb l)[i]=c:=⟨_,rfl⟩;rw [hc] at hgt;have hsn:l.take (i+1)=l.take i++[c]:=by rw [List.take_add_one,hgt];rfl
  have HSN:=jH hsn;clear hgt hsn;by_cases h32:c=32
  ·subst h32;go_wp2_with (at_builtin;refine Classical.byContradiction (fun hcon=>?_));refine hcon ?_;clear hcon;rw [HEX.out];refine zad _ rfl (.tmp 22) (.tmp 27) 23 rfl w.heap.size 9 underlying23 znl rfl (by decide) (by decide) encTx zbi zcz (.slice va L.length vc) (L.map tb) rfl (((Grow.refl wr).alloc _).owns HO.out) _ (tb (wdsL (l.take i))) 1 rfl (zbj wr (encTx (tb (wdsL (l.take i)))) 9) (by rw [List.length_map];omega) (by have:=HG.out.sz;simp;omega) ?_
   intro v9 w9 hown9 hgr9;have hH9:Grow w w9:=zae (((Grow.refl wr).alloc (.cells (encTx (tb (wdsL (l.take i)))).toArray 9)).owns HO.out) hgr9 (Nat.le_refl _) (by have:=HG.out.sz;simp;omega) (HG.out.alloc _)
   obtain ⟨a9,c9,rfl⟩:∃ a c,v9=.slice a (L.length+1) c:=by
    rcases hown9.2 with ⟨hv,h0⟩ | ⟨g,cap,cur,hv,_⟩
    ·simp at h0
    ·exact ⟨some ⟨g,0,none⟩,cap,by rw [hv];simp⟩
   have HW9:=jH hown9;have HH9:=jH hH9;clear hown9 hgr9 hH9;go_wp2_with fail;go_roundw
   case rel=>exact ⟨L++[wdsL (l.take i)],i+1,i+1,a9,c9,by rw [List.length_append,List.length_singleton],by go_num,by go_num,Nat.le_refl _,by omega,by rw [List.length_append,List.length_singleton];omega,HH9.out,by simpa using HW9.out,fun h=>by rw [HSN.out,HWD.out,zvr,zuq,← HSN.out];exact ⟨rfl,by rw [List.drop_eq_nil_iff,List.length_take];omega⟩,fun h=>by omega⟩
   case measure=>simp [intOf];omega
  ·have hcb:=zyi (n:=32) (by decide) h32
   have hcz:¬ ((c.toNat:Nat):Int)=32:=by have:=bne_iff_ne.1 hcb;omega
   go_wp2_with fail;go_roundw
   case rel=>exact ⟨L,b,i+1,va,vc,rfl,rfl,by go_num,by omega,by omega,by omega,HG.out,HO.out,fun h=>by rw [HSN.out,zvf _ h32,zth _ h32,List.drop_append_of_le_length (by rw [List.length_take];omega),HE2.out];exact ⟨HE1.out,rfl⟩,fun h=>by omega⟩
   case measure=>simp [intOf];omega
def cntW (u:ByteArray):Int:=match formB u with | some (_,n)=>(n:Int) | none=>-1
theorem zuu (u:ByteArray) (w:World) (R:Ending→World→Prop) (hR:R (.returned (.int .i64 (cntW u))) w) :
  Calls Tryz.prog 73 #[.string u] w R:=by
 have HR:=jH hR;clear hR
 go_enter func73,ntmps73
 by_cases h0:u=wPut
 ·subst h0;rw [show cntW wPut=5 from by decide +kernel] at HR
  unfold wPut;go_wp2_with fail;exact HR.out
 have e0:(u.toList == [112,117,116])=false:=by have h:=tx_ne h0;rwa [show (wPut).toList=[112,117,116] from by decide +kernel] at h
 by_cases h1:u=wTest
 ·subst h1;rw [show cntW wTest=6 from by decide +kernel] at HR
  unfold wTest;go_wp2_with fail;exact HR.out
 have e1:(u.toList == [116,101,115,116])=false:=by have h:=tx_ne h1;rwa [show (wTest).toList=[116,101,115,116] from by decide +kernel] at h
 by_cases h2:u=wForget
 ·subst h2;rw [show cntW wForget=1 from by decide +kernel] at HR
  unfold wForget;go_wp2_with fail;exact HR.out
 have e2:(u.toList == [102,111,114,103,101,116])=false:=by have h:=tx_ne h2;rwa [show (wForget).toList=[102,111,114,103,101,116] from by decide +kernel] at h
 by_cases h3:u=wLock
 ·subst h3;rw [show cntW wLock=1 from by decide +kernel] at HR
  unfold wLock;go_wp2_with fail;exact HR.out
 have e3:(u.toList == [108,111,99,107])=false:=by have h:=tx_ne h3;rwa [show (wLock).toList=[108,111,99,107] from by decide +kernel] at h
 by_cases h4:u=wUndo
 ·subst h4;rw [show cntW wUndo=0 from by decide +kernel] at HR
  unfold wUndo;go_wp2_with fail;exact HR.out
 have e4:(u.toList == [117,110,100,111])=false:=by have h:=tx_ne h4;rwa [show (wUndo).toList=[117,110,100,111] from by decide +kernel] at h
 by_cases h5:u=wFix
 ·subst h5;rw [show cntW wFix=0 from by decide +kernel] at HR
  unfold wFix;go_wp2_with fail;exact HR.out
 have e5:(u.toList == [102,105,120])=false:=by have h:=tx_ne h5;rwa [show (wFix).toList=[102,105,120] from by decide +kernel] at h
 by_cases h6:u=wCheck
 ·subst h6;rw [show cntW wCheck=0 from by decide +kernel] at HR
  unfold wCheck;go_wp2_with fail;exact HR.out
 have e6:(u.toList == [99,104,101,99,107])=false:=by have h:=tx_ne h6;rwa [show (wCheck).toList=[99,104,101,99,107] from by decide +kernel] at h
 have hn:cntW u=-1:=by
  unfold cntW formB;rw [if_neg h0,if_neg h4,if_neg h1,if_neg h2,if_neg h3,if_neg h5,if_neg h6]
 rw [hn] at HR;clear hn;go_wp2_with fail;exact HR.out
set_option maxRecDepth 100000
set_option maxHeartbeats 4000000
def digB (c:UInt8):Bool:=decide (48≤c∧c≤57)
theorem zxg (ds:List UInt8) (h:ds.all digB=true):∀ i,i≤3→0≤(ds.take i).foldl digN 0∧(ds.take i).foldl digN 0≤999∧(i≤2→(ds.take i).foldl digN 0≤99):=by
 have hd:=List.all_eq_true.1 h;rcases ds with _ | ⟨a,_ | ⟨b,_ | ⟨c,r⟩⟩⟩
 ·intro i _;simp
 ·have ha:=zfi (hd a (by simp))
  intro i hi;rcases i with _ | i
  ·simp
  ·simp only [List.take_succ_cons,List.take_nil,List.foldl,digN];omega
 ·have ha:=zfi (hd a (by simp))
  have hb:=zfi (hd b (by simp))
  intro i hi;rcases i with _ | _ | i
  ·simp
  ·simp only [List.take_succ_cons,List.take_zero,List.foldl,digN];omega
  ·simp only [List.take_succ_cons,List.take_nil,List.foldl,digN];omega
 ·have ha:=zfi (hd a (by simp))
  have hb:=zfi (hd b (by simp))
  have hc:=zfi (hd c (by simp))
  intro i hi;rcases i with _ | _ | _ | _ | i
  ·simp
  ·simp only [List.take_succ_cons,List.take_zero,List.foldl,digN];omega
  ·simp only [List.take_succ_cons,List.take_zero,List.foldl,digN];omega
  ·simp only [List.take_succ_cons,List.take_zero,List.foldl,digN];omega
  ·omega
theorem zpe {ds:List UInt8} {i:Nat} {c:UInt8} (h:ds[i]?=some c):(ds.take (i+1)).foldl digN 0=digN ((ds.take i).foldl digN 0) c:=by
 rw [List.take_add_one,h];simp
theorem zsi {ds:List UInt8} {i:Nat} {c:UInt8} (h:ds[i]?=some c) (ha:(ds.take i).all digB=true) (hc:digB c=true):(ds.take (i+1)).all digB=true:=by
 rw [List.take_add_one,h];simp [ha,hc]
theorem zwc {ds:List UInt8} {i:Nat} {c:UInt8} (h:ds[i]?=some c) (hc:digB c=false):ds.all digB=false:=by
 rw [← Bool.not_eq_true,List.all_eq_true];intro ha;have:=ha c (List.mem_of_getElem? h);rw [hc] at this;cases this
theorem zyq {l:List UInt8} (h:l.head?=some 45):docN l=if l.tail.length<1∨3<l.tail.length then none else if l.tail.all (fun c=>decide (48≤c∧c≤57))=false then none else if Lib.itoa (-1 * l.tail.foldl digN 0)=l then some (-1 * l.tail.foldl digN 0) else none:=by
 unfold docN;simp only [if_pos h]
theorem zzq {l:List UInt8} (h:l.head?≠some 45):docN l=if l.length<1∨3<l.length then none else if l.all (fun c=>decide (48≤c∧c≤57))=false then none else if Lib.itoa (1 * l.foldl digN 0)=l then some (1 * l.foldl digN 0) else none:=by
 unfold docN;simp only [if_neg h]
theorem zqg (l:List UInt8) (hl:l.length≤1000) (w:World) (hg:Glob w) (R:Ending→World→Prop)
  (hR:∀ w' m,Grow w w'→(∀ n,docN l=some n→m=n)→R (.returned (.tuple #[.int .i64 m,.bool (docN l).isSome])) w') :
  Calls Tryz.prog 74 #[.string (tb l)] w R:=by
 have HR:=jH hR;have HG:=jH hg;have hno:docN l=none→∀ m,R (.returned (.tuple #[.int .i64 m,.bool false])) w:=fun h m=>by
  have:=hR w m (Grow.refl w) (fun n e=>by rw [h] at e;cases e)
  rw [h] at this;exact this
 have HNO:=jH hno;clear hR hg hno
 go_enter func74,ntmps74
 have HTS:=jH (zck l);by_cases hl0:l=[]
 ·subst hl0;have HF:=jH (HNO.out rfl 0);go_wp2_with fail;exact HF.out
 have hls:0<(tb l).size:=by have:=HTS.out;rw [this];exact List.length_pos_iff.2 hl0
 have hlz:((tb l).size:Int) > 0:=by omega
 have hgt:=ziz l 0 hls;obtain ⟨c,hc0⟩:∃ c,(tb l)[0]=c:=⟨_,rfl⟩;rw [hc0,← List.head?_eq_getElem?] at hgt;have HGH:=jH hgt;clear hgt hl0;by_cases h45:c=45
 ·subst h45;obtain ⟨r,hr⟩:∃ r,l.tail=r:=⟨_,rfl⟩;have hex:(tb l).extract 1 (tb l).size=tb r:=by
   rw [zif,HTS.out,List.take_length,List.drop_one,hr]
  have hx1:(1:Int)≤((tb l).size:Int):=by omega
  have hdd:=zyq HGH.out;rw [hr] at hdd;have HD:=jH hdd;clear hdd hr;have HTD:=jH (zck r);by_cases hb1:r.length<1
  ·have hz1:((tb r).size:Int)<1:=by have:=HTD.out;omega
   have HF:=jH (HNO.out (by rw [HD.out,if_pos (.inl hb1)]) 0)
   first
   | (exfalso;have:=HTS.out;omega)
   | (go_wp2_with fail;exact HF.out)
  have hz1:¬ ((tb r).size:Int)<1:=by have:=HTD.out;omega
  by_cases hb3:3<r.length
  ·have hz3:((tb r).size:Int) > 3:=by have:=HTD.out;omega
   have HF:=jH (HNO.out (by rw [HD.out,if_pos (.inr hb3)]) 0)
   go_wp2_with fail;exact HF.out
  have hz3:¬ ((tb r).size:Int) > 3:=by have:=HTD.out;omega
  have HD2:=jH (HD.out.trans (if_neg (by omega)))
  go_wp2_with fail
  go_loopw [6,7] (fun s6 s7 wr=>∃ i:Nat,i≤r.length∧s6=.int .i64 ((r.take i).foldl digN 0)∧s7=.int .i64 i∧(r.take i).all digB=true∧wr=w) (fun _ s7 _=>r.length - (intOf s7).toNat)
  case atStart=>exact ⟨0,Nat.zero_le _,rfl,rfl,rfl,rfl⟩
  case round=>
   obtain ⟨i,hi,rfl,rfl,hal,rfl⟩:=hrel;have HAL:=jH hal;have hfb:=zxg (r.take i) hal i (by omega)
   rw [List.take_take,Nat.min_self] at hfb;have HFB:=jH hfb;clear hal hfb;by_cases hil:i<r.length;rotate_left
   ·obtain rfl:i=r.length:=by omega
    have hiz:¬ ((r.length:Nat):Int)<((tb r).size:Int):=by have:=HTD.out;omega
    have hall:r.all digB=true:=by have:=HAL.out;rwa [List.take_length] at this
    have HD3:=jH (HD2.out.trans (if_neg (by rw [show (fun c:UInt8=>decide (48≤c∧c≤57))=digB from rfl,hall];simp)))
    have hfb:=HFB.out;rw [List.take_length] at hfb ⊢;obtain ⟨n,hn⟩:∃ n,r.foldl digN 0=n:=⟨_,rfl⟩;rw [hn] at hfb HD3 ⊢;clear hn hall HAL HFB;have hw:IntKind.i64.wrap ((-1) * n)=(-1) * n:=IntWalk.i64_in _ (by omega)
    obtain ⟨sm,hsm⟩:∃ z,(-1) * n=z:=⟨_,rfl⟩;have hsb : -999≤sm∧sm≤999:=by omega
    rw [hsm] at hw HD3;have hw2:IntKind.i64.wrap ((-1) * n)=sm:=by rw [hsm];exact hw
    have HSB:=jH hsb;have hw3:wrap64 sm=sm:=by have h:=IntWalk.i64_in sm (by omega);rwa [IntWalk.i64_left] at h
    clear hw hfb hsb;go_wp2_with fail;refine zho sm (by have:=HSB.out;omega) (by have:=HSB.out;omega) _ HG.out _ ?_
    intro w2 hg2;have HG2:=jH hg2;clear hg2;by_cases hh:Lib.itoa sm=l
    ·have heq:(⟨(Lib.itoa sm).toArray⟩:ByteArray)=tb l:=by rw [hh];rfl
     have hdn:docN l=some sm:=HD3.out.trans (if_pos hh);have HF:=jH (HR.out w2 sm HG2.out (fun n e=>by rw [hdn] at e;exact Option.some.inj e))
     rw [hdn] at HF;rw [heq];clear heq hh hdn;go_wp2_with fail;exact HF.out
    ·have hne:=tx_ne (x:=(⟨(Lib.itoa sm).toArray⟩:ByteArray)) (y:=tb l) (fun e=>hh (by have:=congrArg (fun t:ByteArray=>t.data.toList) e;simpa [tb] using this))
     have hne2:(Lib.itoa sm == (tb l).toList)=false:=by rw [beq_eq_false_iff_ne,Lib.toList_data,zbt];exact hh
     have hdn:docN l=none:=HD3.out.trans (if_neg hh);have HF:=jH (HR.out w2 sm HG2.out (fun n e=>by rw [hdn] at e;cases e))
     rw [hdn] at HF;clear hh hdn;go_wp2_with fail;exact HF.out
   have hiz:(i:Int)<((tb r).size:Int):=by have:=HTD.out;omega
   have his:i<(tb r).size:=by have:=HTD.out;omega
   have hgt:=ziz r i his;obtain ⟨d,hd⟩:∃ d,(tb r)[i]=d:=⟨_,rfl⟩;rw [hd] at hgt;have HGT:=jH hgt;have hbad:digB d=false→∀ m,R (.returned (.tuple #[.int .i64 m,.bool false])) wr:=fun hb=>HNO.out (HD2.out.trans (if_pos (zwc HGT.out hb)));have HBAD:=jH hbad;clear hgt hbad;by_cases h48:((d.toNat:Nat):Int)<48
   ·have HF:=jH (HBAD.out (by unfold digB;rw [decide_eq_false_iff_not];intro hx;have h2:(48:UInt8).toNat≤d.toNat:=UInt8.le_iff_toNat_le.1 hx.1;have e1:(48:UInt8).toNat=48:=rfl;omega) 0)
    go_wp2_with fail;exact HF.out
   by_cases h57:((d.toNat:Nat):Int) > 57
   ·have HF:=jH (HBAD.out (by unfold digB;rw [decide_eq_false_iff_not];intro hx;have h2:d.toNat≤(57:UInt8).toNat:=UInt8.le_iff_toNat_le.1 hx.2;have e1:(57:UInt8).toNat=57:=rfl;omega) 0)
    go_wp2_with fail;exact HF.out
   have hdig:digB d=true:=by unfold digB;rw [decide_eq_true_eq];exact ⟨UInt8.le_iff_toNat_le.2 (show (48:UInt8).toNat≤d.toNat by have e1:(48:UInt8).toNat=48:=rfl;omega),UInt8.le_iff_toNat_le.2 (show d.toNat≤(57:UInt8).toNat by have e1:(57:UInt8).toNat=57:=rfl;omega)⟩
   have hft:=zpe HGT.out;have hfb:=HFB.out;have HDIG:=jH hdig;obtain ⟨n,hn⟩:∃ n,(r.take i).foldl digN 0=n:=⟨_,rfl⟩;rw [hn] at hfb hft ⊢;have HFT:=jH hft;have hn99:n≤99:=hfb.2.2 (by omega)
   have hn0:=hfb.1;have hd1:IntKind.u8.wrap (((d.toNat:Nat):Int) - 48)=((d.toNat:Nat):Int) - 48:=by unfold IntKind.wrap;simp [IntKind.signed,IntKind.bits];omega
   have hd2:IntKind.i64.wrap (((d.toNat:Nat):Int) - 48)=((d.toNat:Nat):Int) - 48:=IntWalk.i64_in _ (by omega)
   have hd3:IntKind.i64.wrap (10 * n)=10 * n:=IntWalk.i64_in _ (by omega)
   have hd4:IntKind.i64.wrap (10 * n+(((d.toNat:Nat):Int) - 48))=10 * n+(((d.toNat:Nat):Int) - 48):=IntWalk.i64_in _ (by omega)
   clear hdig hft hfb hn;go_wp2_with fail;go_roundw
   case rel=>exact ⟨i+1,by omega,by rw [HFT.out];rfl,by go_num,zsi HGT.out HAL.out HDIG.out,by trivial⟩
   case measure=>simp [intOf];omega
 have hcb:=zyi (n:=45) (by decide) h45
 have hcz:¬ ((c.toNat:Nat):Int)=45:=by have:=bne_iff_ne.1 hcb;omega
 have HD:=jH (zzq (l:=l) (by rw [HGH.out];simpa using h45))
 have HTD:=jH (zck l);by_cases hb1:l.length<1
 ·have hz1:((tb l).size:Int)<1:=by have:=HTD.out;omega
  have HF:=jH (HNO.out (by rw [HD.out,if_pos (.inl hb1)]) 0)
  first
  | (exfalso;have:=HTS.out;omega)
  | (go_wp2_with fail;exact HF.out)
 have hz1:¬ ((tb l).size:Int)<1:=by have:=HTD.out;omega
 by_cases hb3:3<l.length
 ·have hz3:((tb l).size:Int) > 3:=by have:=HTD.out;omega
  have HF:=jH (HNO.out (by rw [HD.out,if_pos (.inr hb3)]) 0)
  go_wp2_with fail;exact HF.out
 have hz3:¬ ((tb l).size:Int) > 3:=by have:=HTD.out;omega
 have HD2:=jH (HD.out.trans (if_neg (by omega)))
 go_wp2_with fail
 go_loopw [6,7] (fun s6 s7 wr=>∃ i:Nat,i≤l.length∧s6=.int .i64 ((l.take i).foldl digN 0)∧s7=.int .i64 i∧(l.take i).all digB=true∧wr=w) (fun _ s7 _=>l.length - (intOf s7).toNat)
 case atStart=>exact ⟨0,Nat.zero_le _,rfl,rfl,rfl,rfl⟩
 case round=>
  obtain ⟨i,hi,rfl,rfl,hal,rfl⟩:=hrel;have HAL:=jH hal;have hfb:=zxg (l.take i) hal i (by omega)
  rw [List.take_take,Nat.min_self] at hfb;have HFB:=jH hfb;clear hal hfb;by_cases hil:i<l.length;rotate_left
  ·obtain rfl:i=l.length:=by omega
   have hiz:¬ ((l.length:Nat):Int)<((tb l).size:Int):=by have:=HTD.out;omega
   have hall:l.all digB=true:=by have:=HAL.out;rwa [List.take_length] at this
   have HD3:=jH (HD2.out.trans (if_neg (by rw [show (fun c:UInt8=>decide (48≤c∧c≤57))=digB from rfl,hall];simp)))
   have hfb:=HFB.out;rw [List.take_length] at hfb ⊢;obtain ⟨n,hn⟩:∃ n,l.foldl digN 0=n:=⟨_,rfl⟩;rw [hn] at hfb HD3 ⊢;clear hn hall HAL HFB;have hw:IntKind.i64.wrap (1 * n)=1 * n:=IntWalk.i64_in _ (by omega)
   obtain ⟨sm,hsm⟩:∃ z,1 * n=z:=⟨_,rfl⟩;have hsb : -999≤sm∧sm≤999:=by omega
   rw [hsm] at hw HD3;have hw2:IntKind.i64.wrap (1 * n)=sm:=by rw [hsm];exact hw
   have HSB:=jH hsb;have hw3:wrap64 sm=sm:=by have h:=IntWalk.i64_in sm (by omega);rwa [IntWalk.i64_left] at h
   clear hw hfb hsb;go_wp2_with fail;refine zho sm (by have:=HSB.out;omega) (by have:=HSB.out;omega) _ HG.out _ ?_
   intro w2 hg2;have HG2:=jH hg2;clear hg2;by_cases hh:Lib.itoa sm=l
   ·have heq:(⟨(Lib.itoa sm).toArray⟩:ByteArray)=tb l:=by rw [hh];rfl
    have hdn:docN l=some sm:=HD3.out.trans (if_pos hh);have HF:=jH (HR.out w2 sm HG2.out (fun n e=>by rw [hdn] at e;exact Option.some.inj e))
    rw [hdn] at HF;rw [heq];clear heq hh hdn;go_wp2_with fail;exact HF.out
   ·have hne:=tx_ne (x:=(⟨(Lib.itoa sm).toArray⟩:ByteArray)) (y:=tb l) (fun e=>hh (by have:=congrArg (fun t:ByteArray=>t.data.toList) e;simpa [tb] using this))
    have hne2:(Lib.itoa sm == (tb l).toList)=false:=by rw [beq_eq_false_iff_ne,Lib.toList_data,zbt];exact hh
    have hdn:docN l=none:=HD3.out.trans (if_neg hh);have HF:=jH (HR.out w2 sm HG2.out (fun n e=>by rw [hdn] at e;cases e))
    rw [hdn] at HF;clear hh hdn;go_wp2_with fail;exact HF.out
  have hiz:(i:Int)<((tb l).size:Int):=by have:=HTD.out;omega
  have his:i<(tb l).size:=by have:=HTD.out;omega
  have hgt:=ziz l i his;obtain ⟨d,hd⟩:∃ d,(tb l)[i]=d:=⟨_,rfl⟩;rw [hd] at hgt;have HGT:=jH hgt;have hbad:digB d=false→∀ m,R (.returned (.tuple #[.int .i64 m,.bool false])) wr:=fun hb=>HNO.out (HD2.out.trans (if_pos (zwc HGT.out hb)));have HBAD:=jH hbad;clear hgt hbad;by_cases h48:((d.toNat:Nat):Int)<48
  ·have HF:=jH (HBAD.out (by unfold digB;rw [decide_eq_false_iff_not];intro hx;have h2:(48:UInt8).toNat≤d.toNat:=UInt8.le_iff_toNat_le.1 hx.1;have e1:(48:UInt8).toNat=48:=rfl;omega) 0)
   go_wp2_with fail;exact HF.out
  by_cases h57:((d.toNat:Nat):Int) > 57
  ·have HF:=jH (HBAD.out (by unfold digB;rw [decide_eq_false_iff_not];intro hx;have h2:d.toNat≤(57:UInt8).toNat:=UInt8.le_iff_toNat_le.1 hx.2;have e1:(57:UInt8).toNat=57:=rfl;omega) 0)
   go_wp2_with fail;exact HF.out
  have hdig:digB d=true:=by unfold digB;rw [decide_eq_true_eq];exact ⟨UInt8.le_iff_toNat_le.2 (show (48:UInt8).toNat≤d.toNat by have e1:(48:UInt8).toNat=48:=rfl;omega),UInt8.le_iff_toNat_le.2 (show d.toNat≤(57:UInt8).toNat by have e1:(57:UInt8).toNat=57:=rfl;omega)⟩
  have hft:=zpe HGT.out;have hfb:=HFB.out;have HDIG:=jH hdig;obtain ⟨n,hn⟩:∃ n,(l.take i).foldl digN 0=n:=⟨_,rfl⟩;rw [hn] at hfb hft ⊢;have HFT:=jH hft;have hn99:n≤99:=hfb.2.2 (by omega)
  have hn0:=hfb.1;have hd1:IntKind.u8.wrap (((d.toNat:Nat):Int) - 48)=((d.toNat:Nat):Int) - 48:=by unfold IntKind.wrap;simp [IntKind.signed,IntKind.bits];omega
  have hd2:IntKind.i64.wrap (((d.toNat:Nat):Int) - 48)=((d.toNat:Nat):Int) - 48:=IntWalk.i64_in _ (by omega)
  have hd3:IntKind.i64.wrap (10 * n)=10 * n:=IntWalk.i64_in _ (by omega)
  have hd4:IntKind.i64.wrap (10 * n+(((d.toNat:Nat):Int) - 48))=10 * n+(((d.toNat:Nat):Int) - 48):=IntWalk.i64_in _ (by omega)
  clear hdig hft hfb hn;go_wp2_with fail;go_roundw
  case rel=>exact ⟨i+1,by omega,by rw [HFT.out];rfl,by go_num,zsi HGT.out HAL.out HDIG.out,by trivial⟩
  case measure=>simp [intOf];omega
end Go.Proofs.YtmeejlgnhfkeaaaGreatDoor
