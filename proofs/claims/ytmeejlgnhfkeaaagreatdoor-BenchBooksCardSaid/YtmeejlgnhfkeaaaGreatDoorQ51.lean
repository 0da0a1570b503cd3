
import Derived.Test.YtmeejlgnhfkeaaaGreatDoorQ43
import Derived.Test.YtmeejlgnhfkeaaaGreatDoorQ39
namespace Go.Proofs.YtmeejlgnhfkeaaaGreatDoor
open Go.RowKit Go.Proofs.Tryz
set_option maxRecDepth 100000
set_option maxHeartbeats 8000000
theorem zzy:∀ {l:List ByteArray} {s:Bn} {q:Nat × Int},stopB s l=some q→q.2≠0
 | [],_,_,h=>by simp [stopB] at h
 | t :: r,s,q,h=>by
  unfold stopB at h;by_cases h0:(doB s t).1≠0
  ·rw [if_pos h0] at h;obtain rfl:=Option.some.inj h;exact h0
  ·rw [if_neg h0] at h;obtain ⟨q2,h2,rfl⟩:=Option.map_eq_some_iff.1 h;have h9:=zzy h2;exact h9
theorem rep_no {p:List Ln} {t:ByteArray} {n e:Int} (h:repB p t=(none,n,e)):e≠0:=by
 unfold repB at h;by_cases h0:valP p≠0
 ·rw [if_pos h0] at h;cases h;exact h0
 rw [if_neg h0] at h;by_cases h1:(Bk.readL 80 0 t.data.toList).2≠[]
 ·rw [if_pos h1] at h;cases h;decide
 rw [if_neg h1] at h;cases hs:stopB (newB p) (ordB t) with
 | none=>rw [hs] at h;cases h
 | some q=>rw [hs] at h;cases h;exact zzy hs
theorem rep_yes {p:List Ln} {t:ByteArray} {s:Bn} {n e:Int} (h:repB p t=(some s,n,e)):e=0:=by
 unfold repB at h;by_cases h0:valP p≠0
 ·rw [if_pos h0] at h;cases h
 rw [if_neg h0] at h;by_cases h1:(Bk.readL 80 0 t.data.toList).2≠[]
 ·rw [if_pos h1] at h;cases h
 rw [if_neg h1] at h;cases hs:stopB (newB p) (ordB t) with
 | none=>rw [hs] at h;cases h;rfl
 | some q=>rw [hs] at h;cases h
theorem ztn (base:Nat) (w:World):HidD base (fun _=>false) w:=⟨fun _ hk=>(by cases hk),fun _ hk=>(by cases hk)⟩
theorem zlu (p:List Ln) (text:ByteArray) (w:World) (v0:Value) (hg:Glob w) (hp:LinesAt w v0 p) (R:Ending→World→Prop) (hR:∀ w',Grow w w'→R (.returned (.bool true)) w') :
  Calls Tryz.prog 5 #[v0,.string text] w R:=by
 have HR:=jH hR;have HG:=jH hg;have HP:=jH hp;clear hR hg hp
 go_enter func5,ntmps5
 go_wp2_with fail;refine zin p _ _ HP.out _ ?_;cases hlg:decide (100<p.length) with
 | true=>
  go_wp2_with fail;refine zcr _ HG.out _ ?_;intro ws hgs9;have HF:=jH (HR.out ws hgs9);clear hgs9;go_wp2_with fail;exact HF.out
 | false=>
 have hpl:p.length≤100:=by have:=of_decide_eq_false hlg;omega
 clear hlg;by_cases htl:20000<text.size
 ·have htz:decide ((text.size:Int) > 20000)=true:=by rw [decide_eq_true_eq];omega
  go_wp2_with fail;refine zcr _ HG.out _ ?_;intro ws hgs9;have HF:=jH (HR.out ws hgs9);clear hgs9;go_wp2_with fail;exact HF.out
 have htz:decide ((text.size:Int) > 20000)=false:=by rw [decide_eq_false_iff_not];omega
 go_wp2_with fail;refine Replay_any p v0 text _ HG.out HP.out (by omega) (by omega) _ ?_ ?_
 ·intro n e h w1 hg1;have HG1:=jH hg1;have HH:=jH h;have he:=rep_no h;have HE:=jH he;have hbs:=hg1.sz;clear hg1 h he;go_wp2_with fail;refine zfa w.heap.size (fun _=>false) p v0 text _ w HG.out HG1.out (Nat.le_refl _) hbs (ztn _ _) (HP.out.grow HG1.out) (by omega) (by omega) _ ?_ ?_
  rotate_left
  ·intro s n2 e2 h2;have h3:=HH.out.symm.trans h2;cases h3
  intro n2 e2 h2 w2 H2 d2;have h3:=HH.out.symm.trans h2;injection h3 with _ h4;injection h4 with h5 h6;subst h5 h6;have HG2:=jH (d2.base HG1.out (ztn w.heap.size _) (Nat.le_refl _));have hez:(e != 0)=true:=by simpa using HE.out
  clear d2 h2;go_wp2_with fail;refine zcr _ (HG.out.grow HG2.out) _ ?_;intro ws hgs9;have HF:=jH (HR.out ws (HG2.out.trans hgs9));clear hgs9;go_wp2_with fail;exact HF.out
 intro s n e h w1 B hg1 hB hb ok;obtain rfl:=rep_yes h;have HG1:=jH hg1;have HH:=jH h;have HB1:=jH hb;have HOK:=jH ok;have HID:=jH (HidD.one (base:=w.heap.size) hB (hb.hid.bd B (by simp)))
 have hbs:=hg1.sz;clear hg1 h hb ok;go_wp2_with fail;refine zfa w.heap.size (fun k=>k == B) p v0 text _ w HG.out HG1.out (Nat.le_refl _) hbs HID.out (HP.out.grow HG1.out) (by omega) (by omega) _ ?_ ?_
 ·intro n2 e2 h2;have h3:=HH.out.symm.trans h2;cases h3
 intro s2 n2 e2 h2 w2 H2 Bd d2 hd2 _;have h3:=HH.out.symm.trans h2;injection h3 with h7 h4;injection h4 with h5 h6;injection h7 with h7;subst h5 h6 h7;have HG2:=jH (d2.base HG1.out HID.out (Nat.le_refl _));have HB2:=jH (HB1.out.dst d2 hd2);have HD2:=jH hd2;clear d2 h2 hd2;go_wp2_with fail;refine Equal_any H2 H2 B Bd w.heap.size s _ (HG.out.grow HG2.out) HB2.out HOK.out HD2.out _ ?_;intro w3 hg3;have HG3:=jH (HG2.out.trans hg3);clear hg3;go_wp2_with fail;refine zcr _ (HG.out.grow HG3.out) _ ?_;intro ws hgs9;have HF:=jH (HR.out ws (HG3.out.trans hgs9));clear hgs9;go_wp2_with fail;exact HF.out
end Go.Proofs.YtmeejlgnhfkeaaaGreatDoor
