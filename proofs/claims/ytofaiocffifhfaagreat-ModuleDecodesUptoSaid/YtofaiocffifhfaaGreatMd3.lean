/- Lemmas towards this claim's statement, each under the conditions that it states itself. -/
import Derived.Test.YtofaiocffifhfaaGreatMd2
set_option maxRecDepth 100000
set_option maxHeartbeats 8000000
set_option linter.unusedVariables false
set_option linter.unusedSimpArgs false
namespace Go.Proofs.YtofaiocffifhfaaGreat
open Go.RowKit Go.Shelf YtofaiocffifhfaaGreatB Go.Proofs.YtofaiocffifhfaaGreatW.PrintWords
def bF (op:Int):Int×Int×Int:=
 if 69≤op∧op≤69 then (1,0,32)else
 if 70≤op∧op≤79 then (2,op - 69,32)else
 if 80≤op∧op≤80 then (1,0,64)else
 if 81≤op∧op≤90 then (2,op - 69 - 11,64)else
 if 91≤op∧op≤96 then (3,op - 91,32)else
 if 97≤op∧op≤102 then (3,op - 91 - 6,64)else
 if 103≤op∧op≤105 then (4,op - 103,32)else
 if 106≤op∧op≤120 then (5,op - 103,32)else
 if 121≤op∧op≤123 then (4,op - 103 - 18,64)else
 if 124≤op∧op≤138 then (5,op - 103 - 18,64)else
 if 139≤op∧op≤145 then (6,op - 139,32)else
 if 146≤op∧op≤152 then (7,op - 139,32)else
 if 153≤op∧op≤159 then (6,op - 139 - 14,64)else
 if 160≤op∧op≤166 then (7,op - 139 - 14,64)else
 if 167≤op∧op≤191 then (8,op - 167,0)else
 if 64512≤op∧op≤64519 then (9,op - 64512,0)else
 (0,0,0)
def dS (op:Int):Int×Int×Int×Bool:=eG (bF op).1 (bF op).2.1 (bF op).2.2
theorem Dk (W:World) (op:Int) (h0: -9223372036854775808≤op) (h1:op≤9223372036854775807):Calls Tryz.prog 157 #[.int .i64 op] W (gp W (dS op)):=by
 by_cases c69:69≤op∧op≤69
 ·obtain rfl:op=69:=by omega
  exact Dv W 69 0 32 (fun X=>GV X) (by omega) (by omega) (by omega)
 by_cases c70:70≤op∧op≤79
 ·rw [dS,show bF op=(2,op - 69,32)from by rw [bF,if_neg (by omega),if_pos c70]];exact CB W op (op - 69) 32 (fun X=>FL X op c70.1 c70.2) (by omega) (by omega) (by omega)
 by_cases c80:80≤op∧op≤80
 ·obtain rfl:op=80:=by omega
  exact Dv W 80 0 64 (fun X=>GG X) (by omega) (by omega) (by omega)
 by_cases c81:81≤op∧op≤90
 ·rw [dS,show bF op=(2,op - 69 - 11,64)from by rw [bF,if_neg (by omega),if_neg (by omega),if_neg (by omega),if_pos c81]];exact CB W op (op - 69 - 11) 64 (fun X=>Fg X op c81.1 c81.2) (by omega) (by omega) (by omega)
 by_cases c91:91≤op∧op≤96
 ·rw [dS,show bF op=(3,op - 91,32)from by rw [bF,if_neg (by omega),if_neg (by omega),if_neg (by omega),if_neg (by omega),if_pos c91]];exact Co W op (op - 91) 32 (fun X=>Fx X op c91.1 c91.2) (by omega) (by omega) (by omega)
 by_cases c97:97≤op∧op≤102
 ·rw [dS,show bF op=(3,op - 91 - 6,64)from by rw [bF,if_neg (by omega),if_neg (by omega),if_neg (by omega),if_neg (by omega),if_neg (by omega),if_pos c97]];exact Co W op (op - 91 - 6) 64 (fun X=>FY X op c97.1 c97.2) (by omega) (by omega) (by omega)
 by_cases c103:103≤op∧op≤105
 ·rw [dS,show bF op=(4,op - 103,32)from by rw [bF,if_neg (by omega),if_neg (by omega),if_neg (by omega),if_neg (by omega),if_neg (by omega),if_neg (by omega),if_pos c103]];exact Ck W op (op - 103) 32 (fun X=>Ew X op c103.1 c103.2) (by omega) (by omega) (by omega)
 by_cases c106:106≤op∧op≤120
 ·rw [dS,show bF op=(5,op - 103,32)from by rw [bF,if_neg (by omega),if_neg (by omega),if_neg (by omega),if_neg (by omega),if_neg (by omega),if_neg (by omega),if_neg (by omega),if_pos c106]];exact CF W op (op - 103) 32 (fun X=>Cz X op c106.1 c106.2) (by omega) (by omega) (by omega)
 by_cases c121:121≤op∧op≤123
 ·rw [dS,show bF op=(4,op - 103 - 18,64)from by rw [bF,if_neg (by omega),if_neg (by omega),if_neg (by omega),if_neg (by omega),if_neg (by omega),if_neg (by omega),if_neg (by omega),if_neg (by omega),if_pos c121]];exact Ck W op (op - 103 - 18) 64 (fun X=>Ct X op c121.1 c121.2) (by omega) (by omega) (by omega)
 by_cases c124:124≤op∧op≤138
 ·rw [dS,show bF op=(5,op - 103 - 18,64)from by rw [bF,if_neg (by omega),if_neg (by omega),if_neg (by omega),if_neg (by omega),if_neg (by omega),if_neg (by omega),if_neg (by omega),if_neg (by omega),if_neg (by omega),if_pos c124]];exact CF W op (op - 103 - 18) 64 (fun X=>Dp X op c124.1 c124.2) (by omega) (by omega) (by omega)
 by_cases c139:139≤op∧op≤145
 ·rw [dS,show bF op=(6,op - 139,32)from by rw [bF,if_neg (by omega),if_neg (by omega),if_neg (by omega),if_neg (by omega),if_neg (by omega),if_neg (by omega),if_neg (by omega),if_neg (by omega),if_neg (by omega),if_neg (by omega),if_pos c139]];exact Dg W op (op - 139) 32 (fun X=>EB X op c139.1 c139.2) (by omega) (by omega) (by omega)
 by_cases c146:146≤op∧op≤152
 ·rw [dS,show bF op=(7,op - 139,32)from by rw [bF,if_neg (by omega),if_neg (by omega),if_neg (by omega),if_neg (by omega),if_neg (by omega),if_neg (by omega),if_neg (by omega),if_neg (by omega),if_neg (by omega),if_neg (by omega),if_neg (by omega),if_pos c146]];exact DY W op (op - 139) 32 (fun X=>DZ X op c146.1 c146.2) (by omega) (by omega) (by omega)
 by_cases c153:153≤op∧op≤159
 ·rw [dS,show bF op=(6,op - 139 - 14,64)from by rw [bF,if_neg (by omega),if_neg (by omega),if_neg (by omega),if_neg (by omega),if_neg (by omega),if_neg (by omega),if_neg (by omega),if_neg (by omega),if_neg (by omega),if_neg (by omega),if_neg (by omega),if_neg (by omega),if_pos c153]];exact Dg W op (op - 139 - 14) 64 (fun X=>BU X op c153.1 c153.2) (by omega) (by omega) (by omega)
 by_cases c160:160≤op∧op≤166
 ·rw [dS,show bF op=(7,op - 139 - 14,64)from by rw [bF,if_neg (by omega),if_neg (by omega),if_neg (by omega),if_neg (by omega),if_neg (by omega),if_neg (by omega),if_neg (by omega),if_neg (by omega),if_neg (by omega),if_neg (by omega),if_neg (by omega),if_neg (by omega),if_neg (by omega),if_pos c160]];exact DY W op (op - 139 - 14) 64 (fun X=>D9 X op c160.1 c160.2) (by omega) (by omega) (by omega)
 by_cases c167:167≤op∧op≤191
 ·rw [dS,show bF op=(8,op - 167,0)from by rw [bF,if_neg (by omega),if_neg (by omega),if_neg (by omega),if_neg (by omega),if_neg (by omega),if_neg (by omega),if_neg (by omega),if_neg (by omega),if_neg (by omega),if_neg (by omega),if_neg (by omega),if_neg (by omega),if_neg (by omega),if_neg (by omega),if_pos c167]];exact IP W op (op - 167) 0 (fun X=>CR X op c167.1 c167.2) (by omega) (by omega) (by omega)
 by_cases c64512:64512≤op∧op≤64519
 ·rw [dS,show bF op=(9,op - 64512,0)from by rw [bF,if_neg (by omega),if_neg (by omega),if_neg (by omega),if_neg (by omega),if_neg (by omega),if_neg (by omega),if_neg (by omega),if_neg (by omega),if_neg (by omega),if_neg (by omega),if_neg (by omega),if_neg (by omega),if_neg (by omega),if_neg (by omega),if_neg (by omega),if_pos c64512]];exact IQ W op (op - 64512) 0 (fun X=>xB X op c64512.1 c64512.2) (by omega) (by omega) (by omega)
 rw [dS,show bF op=(0,0,0)from by rw [bF,if_neg c69,if_neg c70,if_neg c80,if_neg c81,if_neg c91,if_neg c97,if_neg c103,if_neg c106,if_neg c121,if_neg c124,if_neg c139,if_neg c146,if_neg c153,if_neg c160,if_neg c167,if_neg c64512]];exact Jc W op 0 0 (fun X=>zW X op h0 h1 (by omega) (by omega)) (by omega) (by omega) (by omega)
theorem DW (op:Int):(dS op).2.2.2=decide (69≤op∧op≤191∨64512≤op∧op≤64519):=by
 by_cases c69:69≤op∧op≤69
 ·rw [dS,show bF op=(1,0,32)from by rw [bF,if_pos c69],decide_eq_true (by omega)];rfl
 by_cases c70:70≤op∧op≤79
 ·rw [dS,show bF op=(2,op - 69,32)from by rw [bF,if_neg (by omega),if_pos c70],decide_eq_true (by omega)];rfl
 by_cases c80:80≤op∧op≤80
 ·rw [dS,show bF op=(1,0,64)from by rw [bF,if_neg (by omega),if_neg (by omega),if_pos c80],decide_eq_true (by omega)];rfl
 by_cases c81:81≤op∧op≤90
 ·rw [dS,show bF op=(2,op - 69 - 11,64)from by rw [bF,if_neg (by omega),if_neg (by omega),if_neg (by omega),if_pos c81],decide_eq_true (by omega)];rfl
 by_cases c91:91≤op∧op≤96
 ·rw [dS,show bF op=(3,op - 91,32)from by rw [bF,if_neg (by omega),if_neg (by omega),if_neg (by omega),if_neg (by omega),if_pos c91],decide_eq_true (by omega)];rfl
 by_cases c97:97≤op∧op≤102
 ·rw [dS,show bF op=(3,op - 91 - 6,64)from by rw [bF,if_neg (by omega),if_neg (by omega),if_neg (by omega),if_neg (by omega),if_neg (by omega),if_pos c97],decide_eq_true (by omega)];rfl
 by_cases c103:103≤op∧op≤105
 ·rw [dS,show bF op=(4,op - 103,32)from by rw [bF,if_neg (by omega),if_neg (by omega),if_neg (by omega),if_neg (by omega),if_neg (by omega),if_neg (by omega),if_pos c103],decide_eq_true (by omega)];rfl
 by_cases c106:106≤op∧op≤120
 ·rw [dS,show bF op=(5,op - 103,32)from by rw [bF,if_neg (by omega),if_neg (by omega),if_neg (by omega),if_neg (by omega),if_neg (by omega),if_neg (by omega),if_neg (by omega),if_pos c106],decide_eq_true (by omega)];rfl
 by_cases c121:121≤op∧op≤123
 ·rw [dS,show bF op=(4,op - 103 - 18,64)from by rw [bF,if_neg (by omega),if_neg (by omega),if_neg (by omega),if_neg (by omega),if_neg (by omega),if_neg (by omega),if_neg (by omega),if_neg (by omega),if_pos c121],decide_eq_true (by omega)];rfl
 by_cases c124:124≤op∧op≤138
 ·rw [dS,show bF op=(5,op - 103 - 18,64)from by rw [bF,if_neg (by omega),if_neg (by omega),if_neg (by omega),if_neg (by omega),if_neg (by omega),if_neg (by omega),if_neg (by omega),if_neg (by omega),if_neg (by omega),if_pos c124],decide_eq_true (by omega)];rfl
 by_cases c139:139≤op∧op≤145
 ·rw [dS,show bF op=(6,op - 139,32)from by rw [bF,if_neg (by omega),if_neg (by omega),if_neg (by omega),if_neg (by omega),if_neg (by omega),if_neg (by omega),if_neg (by omega),if_neg (by omega),if_neg (by omega),if_neg (by omega),if_pos c139],decide_eq_true (by omega)];rfl
 by_cases c146:146≤op∧op≤152
 ·rw [dS,show bF op=(7,op - 139,32)from by rw [bF,if_neg (by omega),if_neg (by omega),if_neg (by omega),if_neg (by omega),if_neg (by omega),if_neg (by omega),if_neg (by omega),if_neg (by omega),if_neg (by omega),if_neg (by omega),if_neg (by omega),if_pos c146],decide_eq_true (by omega)];rfl
 by_cases c153:153≤op∧op≤159
 ·rw [dS,show bF op=(6,op - 139 - 14,64)from by rw [bF,if_neg (by omega),if_neg (by omega),if_neg (by omega),if_neg (by omega),if_neg (by omega),if_neg (by omega),if_neg (by omega),if_neg (by omega),if_neg (by omega),if_neg (by omega),if_neg (by omega),if_neg (by omega),if_pos c153],decide_eq_true (by omega)];rfl
 by_cases c160:160≤op∧op≤166
 ·rw [dS,show bF op=(7,op - 139 - 14,64)from by rw [bF,if_neg (by omega),if_neg (by omega),if_neg (by omega),if_neg (by omega),if_neg (by omega),if_neg (by omega),if_neg (by omega),if_neg (by omega),if_neg (by omega),if_neg (by omega),if_neg (by omega),if_neg (by omega),if_neg (by omega),if_pos c160],decide_eq_true (by omega)];rfl
 by_cases c167:167≤op∧op≤191
 ·rw [dS,show bF op=(8,op - 167,0)from by rw [bF,if_neg (by omega),if_neg (by omega),if_neg (by omega),if_neg (by omega),if_neg (by omega),if_neg (by omega),if_neg (by omega),if_neg (by omega),if_neg (by omega),if_neg (by omega),if_neg (by omega),if_neg (by omega),if_neg (by omega),if_neg (by omega),if_pos c167],decide_eq_true (by omega)];rfl
 by_cases c64512:64512≤op∧op≤64519
 ·rw [dS,show bF op=(9,op - 64512,0)from by rw [bF,if_neg (by omega),if_neg (by omega),if_neg (by omega),if_neg (by omega),if_neg (by omega),if_neg (by omega),if_neg (by omega),if_neg (by omega),if_neg (by omega),if_neg (by omega),if_neg (by omega),if_neg (by omega),if_neg (by omega),if_neg (by omega),if_neg (by omega),if_pos c64512],decide_eq_true (by omega)];rfl
 rw [dS,show bF op=(0,0,0)from by rw [bF,if_neg c69,if_neg c70,if_neg c80,if_neg c81,if_neg c91,if_neg c97,if_neg c103,if_neg c106,if_neg c121,if_neg c124,if_neg c139,if_neg c146,if_neg c153,if_neg c160,if_neg c167,if_neg c64512],decide_eq_false (by omega)];rfl
def bN (op:Int):Int×Bool:=
 if op=0∨op=1∨op=15∨op=26∨op=27 then (0,true)else
 if op=2∨op=3∨op=4 then (1,true)else
 if op=5∨op=11 then (12,true)else
 if op=12∨op=13 then (2,true)else
 if op=14 then (3,true)else
 if op=16∨op=32∨op=33∨op=34∨op=35∨op=36 then (4,true)else
 if op=17 then (5,true)else
 if op=63∨op=64 then (7,true)else
 if op=65 then (8,true)else
 if op=66 then (9,true)else
 if op=67 then (10,true)else
 if op=68 then (11,true)else
 if 40≤op∧op≤62 then (6,true)else (0,decide (69≤op∧op≤191∨64512≤op∧op≤64519))
def bV (W:World) (r:Int×Bool) (E:Ending) (w' :World):Prop:=E= .returned (.tuple #[.int .i64 r.1, .bool r.2])∧Below W.heap.size W w'
theorem Jn (W:World):Calls Tryz.prog 144 #[.int .i64 0] W (bV W (bN 0)):=by
 go_enter Tryz.func144,Tryz.ntmps144;go_wp2_with fail;go_ret2;exact ⟨rfl,Below.refl _ _⟩
theorem Jq (W:World):Calls Tryz.prog 144 #[.int .i64 1] W (bV W (bN 1)):=by
 go_enter Tryz.func144,Tryz.ntmps144;go_wp2_with fail;go_ret2;exact ⟨rfl,Below.refl _ _⟩
theorem Ii (W:World):Calls Tryz.prog 144 #[.int .i64 15] W (bV W (bN 15)):=by
 go_enter Tryz.func144,Tryz.ntmps144;go_wp2_with fail;go_ret2;exact ⟨rfl,Below.refl _ _⟩
theorem H9 (W:World):Calls Tryz.prog 144 #[.int .i64 26] W (bV W (bN 26)):=by
 go_enter Tryz.func144,Tryz.ntmps144;go_wp2_with fail;go_ret2;exact ⟨rfl,Below.refl _ _⟩
theorem Hu (W:World):Calls Tryz.prog 144 #[.int .i64 27] W (bV W (bN 27)):=by
 go_enter Tryz.func144,Tryz.ntmps144;go_wp2_with fail;go_ret2;exact ⟨rfl,Below.refl _ _⟩
theorem Jv (W:World):Calls Tryz.prog 144 #[.int .i64 2] W (bV W (bN 2)):=by
 go_enter Tryz.func144,Tryz.ntmps144;go_wp2_with fail;go_ret2;exact ⟨rfl,Below.refl _ _⟩
theorem Jw (W:World):Calls Tryz.prog 144 #[.int .i64 3] W (bV W (bN 3)):=by
 go_enter Tryz.func144,Tryz.ntmps144;go_wp2_with fail;go_ret2;exact ⟨rfl,Below.refl _ _⟩
theorem Jt (W:World):Calls Tryz.prog 144 #[.int .i64 4] W (bV W (bN 4)):=by
 go_enter Tryz.func144,Tryz.ntmps144;go_wp2_with fail;go_ret2;exact ⟨rfl,Below.refl _ _⟩
theorem Jp (W:World):Calls Tryz.prog 144 #[.int .i64 5] W (bV W (bN 5)):=by
 go_enter Tryz.func144,Tryz.ntmps144;go_wp2_with fail;go_ret2;exact ⟨rfl,Below.refl _ _⟩
theorem IW (W:World):Calls Tryz.prog 144 #[.int .i64 11] W (bV W (bN 11)):=by
 go_enter Tryz.func144,Tryz.ntmps144;go_wp2_with fail;go_ret2;exact ⟨rfl,Below.refl _ _⟩
theorem II (W:World):Calls Tryz.prog 144 #[.int .i64 12] W (bV W (bN 12)):=by
 go_enter Tryz.func144,Tryz.ntmps144;go_wp2_with fail;go_ret2;exact ⟨rfl,Below.refl _ _⟩
theorem IY (W:World):Calls Tryz.prog 144 #[.int .i64 13] W (bV W (bN 13)):=by
 go_enter Tryz.func144,Tryz.ntmps144;go_wp2_with fail;go_ret2;exact ⟨rfl,Below.refl _ _⟩
theorem IZ (W:World):Calls Tryz.prog 144 #[.int .i64 14] W (bV W (bN 14)):=by
 go_enter Tryz.func144,Tryz.ntmps144;go_wp2_with fail;go_ret2;exact ⟨rfl,Below.refl _ _⟩
theorem Ig (W:World):Calls Tryz.prog 144 #[.int .i64 16] W (bV W (bN 16)):=by
 go_enter Tryz.func144,Tryz.ntmps144;go_wp2_with fail;go_ret2;exact ⟨rfl,Below.refl _ _⟩
theorem Ic (W:World):Calls Tryz.prog 144 #[.int .i64 32] W (bV W (bN 32)):=by
 go_enter Tryz.func144,Tryz.ntmps144;go_wp2_with fail;go_ret2;exact ⟨rfl,Below.refl _ _⟩
theorem I9 (W:World):Calls Tryz.prog 144 #[.int .i64 33] W (bV W (bN 33)):=by
 go_enter Tryz.func144,Tryz.ntmps144;go_wp2_with fail;go_ret2;exact ⟨rfl,Below.refl _ _⟩
theorem Hz (W:World):Calls Tryz.prog 144 #[.int .i64 34] W (bV W (bN 34)):=by
 go_enter Tryz.func144,Tryz.ntmps144;go_wp2_with fail;go_ret2;exact ⟨rfl,Below.refl _ _⟩
theorem Ir (W:World):Calls Tryz.prog 144 #[.int .i64 35] W (bV W (bN 35)):=by
 go_enter Tryz.func144,Tryz.ntmps144;go_wp2_with fail;go_ret2;exact ⟨rfl,Below.refl _ _⟩
theorem IK (W:World):Calls Tryz.prog 144 #[.int .i64 36] W (bV W (bN 36)):=by
 go_enter Tryz.func144,Tryz.ntmps144;go_wp2_with fail;go_ret2;exact ⟨rfl,Below.refl _ _⟩
theorem IL (W:World):Calls Tryz.prog 144 #[.int .i64 17] W (bV W (bN 17)):=by
 go_enter Tryz.func144,Tryz.ntmps144;go_wp2_with fail;go_ret2;exact ⟨rfl,Below.refl _ _⟩
theorem Ja (W:World):Calls Tryz.prog 144 #[.int .i64 63] W (bV W (bN 63)):=by
 go_enter Tryz.func144,Tryz.ntmps144;go_wp2_with fail;go_ret2;exact ⟨rfl,Below.refl _ _⟩
theorem Ih (W:World):Calls Tryz.prog 144 #[.int .i64 64] W (bV W (bN 64)):=by
 go_enter Tryz.func144,Tryz.ntmps144;go_wp2_with fail;go_ret2;exact ⟨rfl,Below.refl _ _⟩
theorem Jh (W:World):Calls Tryz.prog 144 #[.int .i64 65] W (bV W (bN 65)):=by
 go_enter Tryz.func144,Tryz.ntmps144;go_wp2_with fail;go_ret2;exact ⟨rfl,Below.refl _ _⟩
theorem Jg (W:World):Calls Tryz.prog 144 #[.int .i64 66] W (bV W (bN 66)):=by
 go_enter Tryz.func144,Tryz.ntmps144;go_wp2_with fail;go_ret2;exact ⟨rfl,Below.refl _ _⟩
theorem Jf (W:World):Calls Tryz.prog 144 #[.int .i64 67] W (bV W (bN 67)):=by
 go_enter Tryz.func144,Tryz.ntmps144;go_wp2_with fail;go_ret2;exact ⟨rfl,Below.refl _ _⟩
theorem I1 (W:World):Calls Tryz.prog 144 #[.int .i64 68] W (bV W (bN 68)):=by
 go_enter Tryz.func144,Tryz.ntmps144;go_wp2_with fail;go_ret2;exact ⟨rfl,Below.refl _ _⟩
theorem Gr (W:World) (op:Int) (h0:40≤op) (h1:op≤62):Calls Tryz.prog 144 #[.int .i64 op] W (bV W (6,true)):=by
 have z0:(op==0)=false:=beq_eq_false_iff_ne.2 (by omega);have z1:(op==1)=false:=beq_eq_false_iff_ne.2 (by omega);have z15:(op==15)=false:=beq_eq_false_iff_ne.2 (by omega);have z26:(op==26)=false:=beq_eq_false_iff_ne.2 (by omega);have z27:(op==27)=false:=beq_eq_false_iff_ne.2 (by omega);have z2:(op==2)=false:=beq_eq_false_iff_ne.2 (by omega);have z3:(op==3)=false:=beq_eq_false_iff_ne.2 (by omega);have z4:(op==4)=false:=beq_eq_false_iff_ne.2 (by omega);have z5:(op==5)=false:=beq_eq_false_iff_ne.2 (by omega);have z11:(op==11)=false:=beq_eq_false_iff_ne.2 (by omega);have z12:(op==12)=false:=beq_eq_false_iff_ne.2 (by omega);have z13:(op==13)=false:=beq_eq_false_iff_ne.2 (by omega);have z14:(op==14)=false:=beq_eq_false_iff_ne.2 (by omega);have z16:(op==16)=false:=beq_eq_false_iff_ne.2 (by omega);have z32:(op==32)=false:=beq_eq_false_iff_ne.2 (by omega);have z33:(op==33)=false:=beq_eq_false_iff_ne.2 (by omega);have z34:(op==34)=false:=beq_eq_false_iff_ne.2 (by omega);have z35:(op==35)=false:=beq_eq_false_iff_ne.2 (by omega);have z36:(op==36)=false:=beq_eq_false_iff_ne.2 (by omega);have z17:(op==17)=false:=beq_eq_false_iff_ne.2 (by omega);have z63:(op==63)=false:=beq_eq_false_iff_ne.2 (by omega);have z64:(op==64)=false:=beq_eq_false_iff_ne.2 (by omega);have z65:(op==65)=false:=beq_eq_false_iff_ne.2 (by omega);have z66:(op==66)=false:=beq_eq_false_iff_ne.2 (by omega);have z67:(op==67)=false:=beq_eq_false_iff_ne.2 (by omega);have z68:(op==68)=false:=beq_eq_false_iff_ne.2 (by omega);go_enter Tryz.func144,Tryz.ntmps144;go_wp2_with fail;go_ret2;exact ⟨rfl,Below.refl _ _⟩
theorem Fh (W:World) (op:Int) (h0: -9223372036854775808≤op) (h1:op≤9223372036854775807) (hm:op< 40∨62< op) (hl:¬op=0∧¬op=1∧¬op=15∧¬op=26∧¬op=27∧¬op=2∧¬op=3∧¬op=4∧¬op=5∧¬op=11∧¬op=12∧¬op=13∧¬op=14∧¬op=16∧¬op=32∧¬op=33∧¬op=34∧¬op=35∧¬op=36∧¬op=17∧¬op=63∧¬op=64∧¬op=65∧¬op=66∧¬op=67∧¬op=68):Calls Tryz.prog 144 #[.int .i64 op] W (bV W (0,decide (69≤op∧op≤191∨64512≤op∧op≤64519))):=by
 have z0:(op==0)=false:=beq_eq_false_iff_ne.2 (by omega);have z1:(op==1)=false:=beq_eq_false_iff_ne.2 (by omega);have z15:(op==15)=false:=beq_eq_false_iff_ne.2 (by omega);have z26:(op==26)=false:=beq_eq_false_iff_ne.2 (by omega);have z27:(op==27)=false:=beq_eq_false_iff_ne.2 (by omega);have z2:(op==2)=false:=beq_eq_false_iff_ne.2 (by omega);have z3:(op==3)=false:=beq_eq_false_iff_ne.2 (by omega);have z4:(op==4)=false:=beq_eq_false_iff_ne.2 (by omega);have z5:(op==5)=false:=beq_eq_false_iff_ne.2 (by omega);have z11:(op==11)=false:=beq_eq_false_iff_ne.2 (by omega);have z12:(op==12)=false:=beq_eq_false_iff_ne.2 (by omega);have z13:(op==13)=false:=beq_eq_false_iff_ne.2 (by omega);have z14:(op==14)=false:=beq_eq_false_iff_ne.2 (by omega);have z16:(op==16)=false:=beq_eq_false_iff_ne.2 (by omega);have z32:(op==32)=false:=beq_eq_false_iff_ne.2 (by omega);have z33:(op==33)=false:=beq_eq_false_iff_ne.2 (by omega);have z34:(op==34)=false:=beq_eq_false_iff_ne.2 (by omega);have z35:(op==35)=false:=beq_eq_false_iff_ne.2 (by omega);have z36:(op==36)=false:=beq_eq_false_iff_ne.2 (by omega);have z17:(op==17)=false:=beq_eq_false_iff_ne.2 (by omega);have z63:(op==63)=false:=beq_eq_false_iff_ne.2 (by omega);have z64:(op==64)=false:=beq_eq_false_iff_ne.2 (by omega);have z65:(op==65)=false:=beq_eq_false_iff_ne.2 (by omega);have z66:(op==66)=false:=beq_eq_false_iff_ne.2 (by omega);have z67:(op==67)=false:=beq_eq_false_iff_ne.2 (by omega);have z68:(op==68)=false:=beq_eq_false_iff_ne.2 (by omega);have HK:=Lib.hid (Dk W op h0 h1);have HO:=Lib.hid (DW op);generalize dS op=r at *;obtain ⟨r1,r2,r3,r4⟩:=r;clear hl;go_enter Tryz.func144,Tryz.ntmps144;go_wp2_with fail
 all_goals
  refine HK.out.mono ?_;rintro E V ⟨rfl,hB⟩;go_wp2_with fail;go_ret2;exact ⟨by rw [←HO.out];rfl,hB⟩
theorem FP (W:World) (op:Int) (h0: -9223372036854775808≤op) (h1:op≤9223372036854775807):Calls Tryz.prog 144 #[.int .i64 op] W (bV W (bN op)):=by
 by_cases c0:op=0
 ·subst c0;exact Jn W
 by_cases c1:op=1
 ·subst c1;exact Jq W
 by_cases c15:op=15
 ·subst c15;exact Ii W
 by_cases c26:op=26
 ·subst c26;exact H9 W
 by_cases c27:op=27
 ·subst c27;exact Hu W
 by_cases c2:op=2
 ·subst c2;exact Jv W
 by_cases c3:op=3
 ·subst c3;exact Jw W
 by_cases c4:op=4
 ·subst c4;exact Jt W
 by_cases c5:op=5
 ·subst c5;exact Jp W
 by_cases c11:op=11
 ·subst c11;exact IW W
 by_cases c12:op=12
 ·subst c12;exact II W
 by_cases c13:op=13
 ·subst c13;exact IY W
 by_cases c14:op=14
 ·subst c14;exact IZ W
 by_cases c16:op=16
 ·subst c16;exact Ig W
 by_cases c32:op=32
 ·subst c32;exact Ic W
 by_cases c33:op=33
 ·subst c33;exact I9 W
 by_cases c34:op=34
 ·subst c34;exact Hz W
 by_cases c35:op=35
 ·subst c35;exact Ir W
 by_cases c36:op=36
 ·subst c36;exact IK W
 by_cases c17:op=17
 ·subst c17;exact IL W
 by_cases c63:op=63
 ·subst c63;exact Ja W
 by_cases c64:op=64
 ·subst c64;exact Ih W
 by_cases c65:op=65
 ·subst c65;exact Jh W
 by_cases c66:op=66
 ·subst c66;exact Jg W
 by_cases c67:op=67
 ·subst c67;exact Jf W
 by_cases c68:op=68
 ·subst c68;exact I1 W
 by_cases cm:40≤op∧op≤62
 ·rw [show bN op=(6,true)from by rw [bN,if_neg (by omega),if_neg (by omega),if_neg (by omega),if_neg (by omega),if_neg (by omega),if_neg (by omega),if_neg (by omega),if_neg (by omega),if_neg (by omega),if_neg (by omega),if_neg (by omega),if_neg (by omega),if_pos cm]];exact Gr W op cm.1 cm.2
 rw [show bN op=(0,decide (69≤op∧op≤191∨64512≤op∧op≤64519))from by rw [bN,if_neg (by omega),if_neg (by omega),if_neg (by omega),if_neg (by omega),if_neg (by omega),if_neg (by omega),if_neg (by omega),if_neg (by omega),if_neg (by omega),if_neg (by omega),if_neg (by omega),if_neg (by omega),if_neg cm]];exact Fh W op h0 h1 (by omega) ⟨c0,c1,c15,c26,c27,c2,c3,c4,c5,c11,c12,c13,c14,c16,c32,c33,c34,c35,c36,c17,c63,c64,c65,c66,c67,c68⟩
theorem jh (W:World) (op:Int) (h0:0≤op) (h1:op≤5000000000):Calls Tryz.prog 144 #[.int .i64 op] W (bV W (bN op)):=FP W op (by omega) (by omega)
def Gi (g:Nat):Nat:= [11,11,6,6,18,18,14,14,25].getD g 0
def rV (g:Nat):Nat:= [0,11,22,28,34,52,70,84,98,123].getD g 0
theorem zz (g:Nat) (hg:g≤8):rV (g+1)=rV g+Gi g:=by
 have:g=0∨g=1∨g=2∨g=3∨g=4∨g=5∨g=6∨g=7∨g=8:=by omega
 rcases this with rfl|rfl|rfl|rfl|rfl|rfl|rfl|rfl|rfl<;>rfl
theorem Gp (g:Nat) (hg:g≤8):Gi g≤25:=by
 have:g=0∨g=1∨g=2∨g=3∨g=4∨g=5∨g=6∨g=7∨g=8:=by omega
 rcases this with rfl|rfl|rfl|rfl|rfl|rfl|rfl|rfl|rfl<;>decide
def qF (op:Int):Bool:=decide (69≤op∧op≤191∨64512≤op∧op≤64519)
def iA:List Int:= [0,1,2,3,4,5,11,12,13,14,15,16,17,26,27,32,33,34,35,36,63,64,65,66,67,68]
def qX:List Int:= [0,0,1,1,1,12,12,2,2,3,0,4,5,0,0,4,4,4,4,4,7,7,8,9,10,11]
def DN (W:World) (A:Option Addr) (L:List Int):Prop:=∃g,A=some ⟨g,0,none⟩∧∀j x,L[j]? =some x→W.cell? ⟨g,j,none⟩=some (.int .i64 x)
theorem zL (W:World):Calls Tryz.prog 135 #[] W fun E w' =>(∃A,E= .returned (.slice A 26 26)∧DN w' A iA)∧Below W.heap.size W w' :=by
 go_enter Tryz.func135,Tryz.ntmps135;go_wp2_with fail;go_ret;exact ⟨⟨_,rfl,W.heap.size,rfl,fun j x hx=>((Blk.new W (iA.map (Value.int .i64)).toArray 3).cell j).trans (by simp [hx])⟩,(Below.refl _ _).alloc (Nat.le_refl _) _⟩
theorem BK (W:World):Calls Tryz.prog 136 #[] W fun E w' =>(∃A,E= .returned (.slice A 26 26)∧DN w' A qX)∧Below W.heap.size W w' :=by
 go_enter Tryz.func136,Tryz.ntmps136;go_wp2_with fail;go_ret;exact ⟨⟨_,rfl,W.heap.size,rfl,fun j x hx=>((Blk.new W (qX.map (Value.int .i64)).toArray 3).cell j).trans (by simp [hx])⟩,(Below.refl _ _).alloc (Nat.le_refl _) _⟩
def iO (op:Int):Int:=if (bN op).2 then (bN op).1 else -1
theorem Bn:∀j:Nat,j< 26→iO (iA.getD j 0)=qX.getD j 0:=by decide
theorem FH (op:Int) (h:∀y∈iA,¬y=op) (h2:¬(40≤op∧op≤62)):iO op=if qF op then 0 else -1:=by
 have h' :∀x∈iA,¬op=x:=fun x hx e=>h x hx e.symm
 simp only [iA,List.mem_cons,List.mem_nil_iff,or_false,forall_eq_or_imp,forall_eq]at h';unfold iO bN qF;simp [h',h2]
def JM (W:World) (p q:Nat) (A:Option Addr) (c:Nat) (B:List Int) (a:Nat) (e:Int):Prop:=
 Blk W p #[.slice A B.length c, .int .i64 a, .int .i64 e] 57∧ByQ W q A B
def Rdr (W:World) (p q:Nat) (B:List Int) (a:Nat) (e:Int):Prop:=p≠q∧a≤B.length∧∃A c,B.length≤c∧JM W p q A c B a e
theorem Rdr.grown {W W' :World} {p q:Nat} {B:List Int} {a:Nat} {e:Int} (h:Rdr W p q B a e) {row:Option Nat} (hg:W.grownBy W' row) (hp:some p≠row) (hq:some q≠row):Rdr W' p q B a e:=by
 obtain ⟨h0,h1,A,c,h2,h3,h4⟩:=h;exact ⟨h0,h1,A,c,h2,h3.grown hg hp,h4.grown hg hq⟩
theorem Rdr.below {W W' :World} {p q:Nat} {B:List Int} {a:Nat} {e:Int} (h:Rdr W p q B a e) (hb:Below W.heap.size W W'):Rdr W' p q B a e:=h.grown (aL hb none) (by simp) (by simp)
theorem Rdr.alloc {W:World} {p q:Nat} {B:List Int} {a:Nat} {e:Int} (h:Rdr W p q B a e) (o:Obj):Rdr (W.alloc o) p q B a e:=h.grown (World.grownBy_alloc W o none) (by simp) (by simp)
theorem Rdr.lt {W:World} {p q:Nat} {B:List Int} {a:Nat} {e:Int} (h:Rdr W p q B a e):p< W.heap.size:=by
 obtain ⟨_,_,A,c,_,h3,_⟩:=h;exact h3.lt
theorem Rdr.set {W:World} {p q:Nat} {B:List Int} {a:Nat} {e:Int} (h:Rdr W p q B a e) (a' :Nat) (e' :Int) (ha:a' ≤B.length):Rdr ((W.setCell ⟨p,2,none⟩ (.int .i64 e')).setCell ⟨p,1,none⟩ (.int .i64 a')) p q B a' e' :=by
 obtain ⟨h0,h1,A,c,h2,h3,h4⟩:=h;refine ⟨h0,ha,A,c,h2, ?_, ?_⟩
 ·have:=(h3.set 2 (.int .i64 e')).set 1 (.int .i64 a');simpa using this
 ·exact (h4.grown (bA W p 2 (.int .i64 e')) (fun e=>h0 (by injection e with e;exact e.symm))).grown (bA _ p 1 (.int .i64 a')) (fun e=>h0 (by injection e with e;exact e.symm))
theorem Rdr.AA {W:World} {p q:Nat} {B:List Int} {a:Nat} {e:Int} (h:Rdr W p q B a e) (e' :Int):Rdr (W.setCell ⟨p,2,none⟩ (.int .i64 e')) p q B a e' :=by
 obtain ⟨h0,h1,A,c,h2,h3,h4⟩:=h;refine ⟨h0,h1,A,c,h2, ?_, ?_⟩
 ·have:=h3.set 2 (.int .i64 e');simpa using this
 ·exact h4.grown (bA _ p 2 (.int .i64 e')) (fun e=>h0 (by injection e with e;exact e.symm))
theorem Rdr.setAt {W:World} {p q:Nat} {B:List Int} {a:Nat} {e:Int} (h:Rdr W p q B a e) (a' :Nat) (ha:a' ≤B.length):Rdr (W.setCell ⟨p,1,none⟩ (.int .i64 a')) p q B a' e:=by
 obtain ⟨h0,h1,A,c,h2,h3,h4⟩:=h;refine ⟨h0,ha,A,c,h2, ?_, ?_⟩
 ·have:=h3.set 1 (.int .i64 a');simpa using this
 ·exact h4.grown (bA _ p 1 (.int .i64 a')) (fun e=>h0 (by injection e with e;exact e.symm))
def aF (W W' :World) (p q:Nat) (B:List Int) (a:Nat) (e:Int):Prop:=Rdr W' p q B a e∧W.grownBy W' (some p)
theorem aF.same {W:World} {p q:Nat} {B:List Int} {a:Nat} {e:Int} (h:Rdr W p q B a e):aF W W p q B a e:=⟨h,World.grownBy.refl W _⟩
theorem aF.drewN {W:World} {p q:Nat} {B:List Int} {a:Nat} {e:Int} (h:Rdr W p q B a e) (m:Nat):aF W (W.drewN m) p q B a e:=⟨h.below ⟨rfl,rfl,rfl,Nat.le_refl _,fun _ _=>rfl⟩,⟨rfl,rfl,rfl,Nat.le_refl _,fun _ _ _=>rfl⟩⟩
theorem aF.trans {W W1 W2:World} {p q:Nat} {B:List Int} {a a' :Nat} {e e' :Int} (h:aF W W1 p q B a e) (h' :aF W1 W2 p q B a' e'):aF W W2 p q B a' e' :=⟨h'.1,h.2.trans h'.2⟩
theorem Rdr.cells {W:World} {p q:Nat} {B:List Int} {a:Nat} {e:Int} (h:Rdr W p q B a e):
  ∃A c,W.cell? ⟨p,0,none⟩=some (.slice A B.length c)∧W.cell? ⟨p,1,none⟩=some (.int .i64 a)∧W.cell? ⟨p,2,none⟩=some (.int .i64 e)∧W.frozen? ⟨p,0,none⟩=false∧W.frozen? ⟨p,1,none⟩=false∧W.frozen? ⟨p,2,none⟩=false∧B.length≤c∧ByQ W q A B∧p< W.heap.size∧a≤B.length:=by
 obtain ⟨h0,h1,A,c,h2,h3,h4⟩:=h;exact ⟨A,c,by rw [h3.cell];rfl,by rw [h3.cell];rfl,by rw [h3.cell];rfl,h3.frozen 0,h3.frozen 1,h3.frozen 2,h2,h4,h3.lt,h1⟩
theorem fK (W:World) (p q:Nat) (B:List Int) (a:Nat) (e:Int) (hC:Rdr W p q B a e) (hB:aK B):
  Calls Tryz.prog 19 #[.pointer (some ⟨p,0,none⟩)] W fun E w' =>E= .returned (.int .u8 (aQ B a e).1)∧aF W w' p q B (aQ B a e).2.1 (aQ B a e).2.2:=by
 have hl:=hB.1;have HC:=Lib.hid hC;obtain ⟨A,c,c0,c1,c2,f0,f1,f2,hle,hq,hlt,ha⟩:=hC.cells;by_cases he:e=0
 ·subst he;rcases Nat.lt_or_ge a B.length with hlt2|hge
  ·obtain ⟨o,x,rfl,hx,hc⟩:=hq.at_ a hlt2;have HV:=Lib.hid (show aQ B a 0=(x,a+1,0)from by simp [aQ,hx.out]);have hpq:p≠q:=hC.1;have hlt3:(a:Int)<(B.length:Int):=by omega
   have hw1:IntKind.i64.wrap ((a:Int)+1 - 1)=a:=by rw [IntKind.wrap_i64];omega
   have H2:=Lib.hid (fun X (h:Rdr X p q B a 0)=>show Rdr (X.setCell ⟨p,1,none⟩ (.int .i64 ((a:Int)+1))) p q B (a+1) 0 from by rw [show (a:Int)+1=((a+1:Nat):Int)from rfl];exact h.setAt (a+1) (by omega));clear hC hB hq hx;go_enter Tryz.func19,Tryz.ntmps19;go_wp2_with fail;go_quiet (fail);go_wp2_with fail;go_quiet (fail);go_wp2_with fail;go_ret;rw [HV.out];exact ⟨rfl,aF.trans (aF.trans (aF.drewN HC.out _) ⟨H2.out _ (aF.drewN HC.out _).1,bA _ _ _ _⟩) (aF.drewN (H2.out _ (aF.drewN HC.out _).1) _)⟩
  ·obtain rfl:a=B.length:=by omega
   have HV:=Lib.hid (show aQ B B.length 0=(0,B.length,100)from by simp [aQ]);have h2:=Lib.hid (hC.AA 100);clear hC hB hq;go_enter Tryz.func19,Tryz.ntmps19;go_wp2_with fail;go_quiet (fail);go_wp2_with fail;go_ret;rw [HV.out];exact ⟨rfl,aF.trans ⟨h2.out,bA _ _ _ _⟩ (aF.drewN h2.out _)⟩
 ·have he2:(e !=0)=true:=by simp;exact he
  have HV:=Lib.hid (show aQ B a e=(0,a,e)from by simp [aQ,he]);clear hC hB hq he;go_enter Tryz.func19,Tryz.ntmps19;go_wp2_with fail;go_ret;rw [HV.out];exact ⟨rfl,aF.same HC.out⟩
theorem dx (W:World) (p q:Nat) (B:List Int) (a:Nat) (e e' :Int) (hC:Rdr W p q B a e):
  Calls Tryz.prog 20 #[.pointer (some ⟨p,0,none⟩), .int .i64 e'] W fun E w' =>E= .returned (.tuple #[])∧aF W w' p q B a (cz e e'):=by
 have HC:=Lib.hid hC;obtain ⟨A,c,c0,c1,c2,f0,f1,f2,hle,hq,hlt,ha⟩:=hC.cells;by_cases he:e=0
 ·subst he;have h2:=Lib.hid (hC.AA e');rw [cz,if_pos rfl];clear hC hq;go_enter Tryz.func20,Tryz.ntmps20;go_wp2_with fail;go_end0;exact ⟨rfl,h2.out,bA _ _ _ _⟩
 ·have he2:(e==0)=false:=by simpa using he
  rw [cz,if_neg he];clear hC hq he;go_enter Tryz.func20,Tryz.ntmps20;go_wp2_with fail;go_end0;exact ⟨rfl,aF.same HC.out⟩
theorem dV (W:World) (p q:Nat) (B:List Int) (a a' :Nat) (e:Int) (hC:Rdr W p q B a e) (ha' :a' ≤B.length):
  Calls Tryz.prog 65 #[.pointer (some ⟨p,0,none⟩), .int .i64 a'] W fun E w' =>E= .returned (.tuple #[])∧aF W w' p q B (if e=0 then a else a') e:=by
 have HC:=Lib.hid hC;obtain ⟨A,c,c0,c1,c2,f0,f1,f2,hle,hq,hlt,ha⟩:=hC.cells;by_cases he:e=0
 ·subst he;rw [if_pos rfl];clear hC hq;go_enter Tryz.func65,Tryz.ntmps65;go_wp2_with fail;go_end0;exact ⟨rfl,aF.same HC.out⟩
 ·have he2:(e !=0)=true:=by simp;exact he
  have h2:=Lib.hid (hC.setAt a' ha');rw [if_neg he];clear hC hq he;go_enter Tryz.func65,Tryz.ntmps65;go_wp2_with fail;go_end0;exact ⟨rfl,h2.out,bA _ _ _ _⟩
def Rp (W:World) (R p:Nat) (sat:Bool) (deep:Int):Prop:=Blk W R #[.pointer (some ⟨p,0,none⟩), .bool sat, .int .i64 deep] 218
theorem Rp.cells {W:World} {R p:Nat} {sat:Bool} {deep:Int} (h:Rp W R p sat deep):W.cell? ⟨R,0,none⟩=some (.pointer (some ⟨p,0,none⟩))∧W.cell? ⟨R,1,none⟩=some (.bool sat)∧W.cell? ⟨R,2,none⟩=some (.int .i64 deep)∧W.frozen? ⟨R,2,none⟩=false∧R< W.heap.size:=
 ⟨by rw [h.cell];rfl,by rw [h.cell];rfl,by rw [h.cell];rfl,h.frozen 2,h.lt⟩
theorem Rp.goes {W W' :World} {R p q:Nat} {sat:Bool} {deep:Int} {B:List Int} {a:Nat} {e:Int} (h:Rp W R p sat deep) (hR:R≠p) (hG:Goes W W' p q B a e):Rp W' R p sat deep:=Blk.grown h hG.2 (by simpa using hR)
theorem bW (W:World) (R p q:Nat) (sat:Bool) (deep:Int) (B:List Int) (a:Nat) (e:Int) (b:Bool) (hR:Rp W R p sat deep) (hC:Cur W p q B a e) (hb:(e==0)=b):
  Calls Tryz.prog 134 #[.pointer (some ⟨R,0,none⟩)] W fun E w' =>E= .returned (.bool b)∧W=w' :=by
 obtain ⟨r0,r1,r2,rf,rlt⟩:=hR.cells;have H:=Lib.hid (lh W p q B a e hC);have HB:=Lib.hid hb;clear hR hC hb;go_enter Tryz.func134,Tryz.ntmps134;go_wp2_with fail;refine H.out.mono ?_;rintro E w' ⟨rfl,rfl⟩;go_wp2_with fail;go_ret;exact ⟨by rw [←HB.out];rfl,rfl⟩
def aO (B:List Int) (a:Nat) (e:Int):Int×Int:=if e=0 then (match B[a]? with|some x=>(x,0)|none=>(0,100))else (0,e)
theorem tZ (B:List Int) (a:Nat) (e:Int):(aQ B a e).1=(aO B a e).1∧(aQ B a e).2.2=(aO B a e).2:=by
 unfold aQ aO;by_cases he:e=0
 ·simp only [he,if_true];cases B[a]? <;>exact ⟨rfl,rfl⟩
 ·simp only [he,if_false,and_self]
theorem AY (B:List Int) (a:Nat) (e:Int):cz e (aO B a e).2=(aO B a e).2:=by
 unfold cz aO;by_cases he:e=0
 ·simp only [he,if_true]
 ·simp only [he,if_false]
theorem Cur.copy {W:World} {p q:Nat} {B:List Int} {a:Nat} {e:Int} {A:Option Addr} {c:Nat} (hC:Cur W p q B a e) (hc0:W.cell? ⟨p,0,none⟩=some (.slice A B.length c)):
  ∃q',Cur (W.alloc (.cells #[.slice A B.length c, .int .i64 a, .int .i64 e] 124)) W.heap.size q' B a e:=by
 obtain ⟨h0,h1,A',c',h2,h3,h4⟩:=hC;have he:some (Value.slice A B.length c)=some (Value.slice A' B.length c'):=by rw [←hc0,h3.cell];rfl
 simp only [Option.some.injEq,Value.slice.injEq]at he;obtain ⟨rfl,_,rfl⟩:=he;rcases Nat.eq_zero_or_pos B.length with hz|hz
 ·exact ⟨W.heap.size+1,by omega,h1,A,c,h2,Blk.new _ _ _,fun hp=>by omega⟩
 ·have hql:q< W.heap.size:=by
   obtain ⟨o,e,hcell⟩:=h4 hz;exact World.block_lt_of_cell? _ _ (hcell 0 _ (List.getElem?_eq_getElem hz))
  exact ⟨q,by omega,h1,A,c,h2,Blk.new _ _ _,h4.grown (World.grownBy_alloc W _ none) (by simp)⟩
theorem xJ {W W1 W2:World} {p q c' q' :Nat} {B:List Int} {a a2:Nat} {e e2:Int} (hC:Cur W p q B a e) (h0:Below W.heap.size W W1) (h:Goes W1 W2 c' q' B a2 e2) (hc:W.heap.size≤c'):Goes W W2 p q B a e:=by
 have hb:=h0.grown h.2 h0.size (fun k e=>by cases e;exact hc);exact ⟨hC.below hb,aL hb _⟩
theorem kz (W:World) (R p q:Nat) (sat:Bool) (deep:Int) (B:List Int) (a:Nat) (e:Int) (hR:Rp W R p sat deep) (hRp:R≠p) (hC:Cur W p q B a e) (hB:aK B):
  Calls Tryz.prog 140 #[.pointer (some ⟨R,0,none⟩)] W fun E w' =>E= .returned (.int .u8 (aO B a e).1)∧Goes W w' p q B a (aO B a e).2:=by
 obtain ⟨r0,r1,r2,rf,rlt⟩:=hR.cells;obtain ⟨A,c,c0,c1,c2,f0,f1,f2,hle,hq,hlt,ha⟩:=hC.cells;obtain ⟨q',hC1⟩:=hC.copy c0;have HByte:=Lib.hid (iw _ W.heap.size q' B a e hC1 hB);rw [(tZ B a e).1,(tZ B a e).2]at HByte;have HPF:=Lib.hid (AY B a e);generalize aO B a e=t at *;obtain ⟨v,e2⟩:=t;have HC:=Lib.hid hC;have HR:=Lib.hid hR;generalize (aQ B a e).2.1=a2 at *;clear hC hq hC1 hB hR;go_enter Tryz.func140,Tryz.ntmps140;go_wp2_with fail;refine HByte.out.mono ?_;rintro E W1 ⟨rfl,hG⟩;have HG:=Lib.hid (xJ HC.out ((Below.refl _ _).alloc (Nat.le_refl _) _) hG (Nat.le_refl _));have HGc:=Lib.hid hG.1;clear HByte hG;go_wp2_with fail;refine (lh _ _ _ _ _ _ HGc.out).mono ?_;rintro E w' ⟨rfl,rfl⟩;by_cases he:e2=0
 ·subst he;go_wp2_with fail;go_ret
  have hz:e=0:=by
   have:=HPF.out;unfold cz at this;by_cases h:e=0
   ·exact h
   ·simp only [h,if_false]at this
  rw [hz]at HG;exact ⟨rfl,HG.out⟩
 ·have he2:(e2 !=0)=true:=by simp;exact he
  have he3:=Lib.hid (beq_eq_false_iff_ne.2 he);have HR1:=Lib.hid (HR.out.goes hRp HG.out);obtain ⟨s0,s1,s2,sf,slt⟩:=HR1.out.cells;have HEd:=Lib.hid (lh W1.drew _ _ _ _ _ (Goes.drewN HGc.out 1).1);have HFd:=Lib.hid (eD W1.drew _ _ _ _ _ e2 (Goes.drewN HG.out.1 1).1 he3.out);clear he r0 r1 r2 rf;go_wp2_with fail
  go_region_held3 (fun w' =>w'.cell? ⟨R,0,none⟩=some (.pointer (some ⟨p,0,none⟩)))
   (first|exact s0|exact hS0)
   (first
    |(go_at_call 15;refine HEd.out.mono ?_;rintro E w3 ⟨rfl,rfl⟩)
    |(go_at_call 36;refine HFd.out.mono ?_;rintro E w4 ⟨rfl,hG4⟩;have hS0:w4.cell? ⟨R,0,none⟩=some (.pointer (some ⟨p,0,none⟩)):=by rw [(HR1.out.drew.grown hG4.2 (by simpa using hRp)).cell];rfl))
  have HG4:=Lib.hid (show Goes W1.drew w4 p q B a e2 from by have:=hG4;rw [HPF.out]at this;exact this);clear hG4 hS0;go_wp2_with fail;go_ret;exact ⟨rfl,(HG.out.trans (Goes.drewN HG.out.1 1)).trans HG4.out⟩
def fD (B:List Int) (a:Nat) (e:Int):Int×Nat×Int:=let r:=az (aI B a) a e;(64512+r.1,r.2.1,if r.1 >7 then cz r.2.2 108 else r.2.2)
theorem dD (B:List Int) (a:Nat) (e:Int) (hB:aK B):0≤(az (aI B a) a e).1∧(az (aI B a) a e).1≤4294967295:=by
 unfold az;by_cases he:e=0
 ·rw [if_pos he]
  cases hu:aI B a with
  |error e' =>simp [dm]
  |ok y=>
   obtain ⟨n,nx⟩:=y;have:=jO hB hu;simp only [dm];omega
 ·rw [if_neg he];simp
theorem xh (W:World) (R p q:Nat) (sat:Bool) (deep:Int) (B:List Int) (a:Nat) (e:Int) (hR:Rp W R p sat deep) (hRp:R≠p) (hC:Cur W p q B a e) (hB:aK B):
  Calls Tryz.prog 158 #[.pointer (some ⟨R,0,none⟩)] W fun E w' =>E= .returned (.int .i64 (fD B a e).1)∧Goes W w' p q B (fD B a e).2.1 (fD B a e).2.2:=by
 obtain ⟨r0,r1,r2,rf,rlt⟩:=hR.cells;have H:=Lib.hid (dG W p q B a e hC hB);have hb:=dD B a e hB;have HV:=Lib.hid (show fD B a e=(64512+(az (aI B a) a e).1,(az (aI B a) a e).2.1,if (az (aI B a) a e).1 >7 then cz (az (aI B a) a e).2.2 108 else (az (aI B a) a e).2.2)from rfl);generalize az (aI B a) a e=t at *;obtain ⟨n,a',e'⟩:=t;obtain ⟨hb0,hb1⟩:=hb;have HR:=Lib.hid hR;clear hC hB hR;by_cases h7:n >7
 ·have hn:(7:Int)< n:=h7;rw [if_pos h7]at HV;clear h7;go_enter Tryz.func158,Tryz.ntmps158;go_wp2_with fail;refine H.out.mono ?_;rintro E W1 ⟨rfl,hG⟩;obtain ⟨s0,s1,s2,sf,slt⟩:=(HR.out.goes hRp hG).cells;have HG:=Lib.hid hG;clear hG H;go_wp2_with fail;refine (eD _ _ _ _ _ _ 108 HG.out.1 rfl).mono ?_;rintro E W2 ⟨rfl,hG2⟩;have HG2:=Lib.hid hG2;clear hG2;go_wp2_with fail;go_ret;rw [HV.out];exact ⟨rfl,HG.out.trans HG2.out⟩
 ·have hn:n≤7:=by omega
  rw [if_neg h7]at HV;clear h7;go_enter Tryz.func158,Tryz.ntmps158;go_wp2_with fail;refine H.out.mono ?_;rintro E W1 ⟨rfl,hG⟩;have HG:=Lib.hid hG;clear hG H;go_wp2_with fail;go_ret;rw [HV.out];exact ⟨rfl,HG.out⟩
def opM (sat:Bool) (B:List Int) (a:Nat) (e:Int):Int×Nat×Int:=
 if (aO B a e).2=0 then (if (aO B a e).1=252∧sat=true then fD B (a+1) 0 else if (bN (aO B a e).1).2=true then ((aO B a e).1,a+1,0)else (0,a,108))else (0,a,(aO B a e).2)
theorem gG {B:List Int} {a:Nat} {e x:Int} (h:aO B a e=(x,0)):e=0∧B[a]? =some x:=by
 unfold aO at h;by_cases he:e=0
 ·rw [if_pos he]at h
  cases hx:B[a]? with
  |none=>rw [hx]at h;simp at h
  |some y=>rw [hx]at h;simp at h;exact ⟨he,by rw [h]⟩
 ·rw [if_neg he]at h;simp at h;exact absurd h.2 he
theorem uq (W:World) (R p q:Nat) (sat:Bool) (deep:Int) (B:List Int) (a:Nat) (e:Int) (hR:Rp W R p sat deep) (hRp:R≠p) (hC:Cur W p q B a e) (hB:aK B):
  Calls Tryz.prog 145 #[.pointer (some ⟨R,0,none⟩)] W fun E w' =>E= .returned (.int .i64 (opM sat B a e).1)∧Goes W w' p q B (opM sat B a e).2.1 (opM sat B a e).2.2:=by
 have H:=Lib.hid (kz W R p q sat deep B a e hR hRp hC hB);have HR:=Lib.hid hR;have HB:=Lib.hid hB;have hopm:opM sat B a e=if (aO B a e).2=0 then (if (aO B a e).1=252∧sat=true then fD B (a+1) 0 else if (bN (aO B a e).1).2=true then ((aO B a e).1,a+1,0)else (0,a,108))else (0,a,(aO B a e).2):=rfl
 have hpg:=fun x=>gG (B:=B) (a:=a) (e:=e) (x:=x)
 generalize aO B a e=t at *;obtain ⟨x,e1⟩:=t;clear hR hC;by_cases he:e1=0
 ·subst he;rw [if_pos rfl]at hopm;obtain ⟨rfl,hx⟩:=hpg x rfl;have hxb:=hB.get hx;have hx0:=hxb.1;have hx1:=hxb.2;have HM:=Lib.hid (jh · x hx0 (by omega));have HBy:=Lib.hid (show aQ B a 0=(x,a+1,0)from by simp [aQ,hx]);clear hpg hx hB hxb;by_cases hs:x=252∧sat=true
  ·obtain ⟨rfl,rfl⟩:=hs;rw [if_pos ⟨rfl,rfl⟩]at hopm;have HV:=Lib.hid hopm;clear hopm;go_enter Tryz.func145,Tryz.ntmps145;go_wp2_with fail;refine H.out.mono ?_;rintro E W1 ⟨rfl,hG⟩;have HR1:=Lib.hid (HR.out.goes hRp hG);have HG:=Lib.hid hG;clear hG H;go_wp2_with fail;refine (bW _ _ _ _ _ _ _ _ _ true HR1.out HG.out.1 rfl).mono ?_;rintro E w' ⟨rfl,rfl⟩;go_wp2_with fail;refine (HM.out _).mono ?_;rintro E W2 ⟨rfl,hB2⟩;have HG2:=Lib.hid (show Goes W1 W2 p q B a 0 from ⟨HG.out.1.below hB2,aL hB2 _⟩);have HR2:=Lib.hid (HR1.out.goes hRp HG2.out);obtain ⟨s0,s1,s2,sf,slt⟩:=HR2.out.cells;clear hB2;go_wp2_with fail;refine (iw _ _ _ _ _ _ HG2.out.1 HB.out).mono ?_;rintro E W3 ⟨rfl,hG3⟩;rw [HBy.out]at hG3;have HR3:=Lib.hid (HR2.out.goes hRp hG3);have HG3:=Lib.hid hG3;clear hG3;go_wp2_with fail;refine (xh _ _ _ _ _ _ _ _ _ HR3.out hRp HG3.out.1 HB.out).mono ?_;rintro E W4 ⟨rfl,hG4⟩;have HG4:=Lib.hid hG4;clear hG4;go_wp2_with fail;go_ret;rw [HV.out];exact ⟨rfl,((HG.out.trans HG2.out).trans HG3.out).trans HG4.out⟩
  ·rw [if_neg hs]at hopm;by_cases h252:x=252
   ·obtain rfl:sat=false:=by
     cases sat
     ·rfl
     ·exact absurd ⟨h252,rfl⟩ hs
    subst h252;rw [show bN 252=(0,false)from by decide]at hopm HM;have HV:=Lib.hid (show opM false B a 0=(0,a,108)from hopm);clear hopm hs;go_enter Tryz.func145,Tryz.ntmps145;go_wp2_with fail;refine H.out.mono ?_;rintro E W1 ⟨rfl,hG⟩;have HR1:=Lib.hid (HR.out.goes hRp hG);have HG:=Lib.hid hG;clear hG;go_wp2_with fail;refine (bW _ _ _ _ _ _ _ _ _ true HR1.out HG.out.1 rfl).mono ?_;rintro E w' ⟨rfl,rfl⟩;go_wp2_with fail;refine (HM.out _).mono ?_;rintro E W2 ⟨rfl,hB2⟩;have HG2:=Lib.hid (show Goes W1 W2 p q B a 0 from ⟨HG.out.1.below hB2,aL hB2 _⟩);have HR2:=Lib.hid (HR1.out.goes hRp HG2.out);obtain ⟨s0,s1,s2,sf,slt⟩:=HR2.out.cells;clear hB2;go_wp2_with fail;refine (eD _ _ _ _ _ _ 108 HG2.out.1 rfl).mono ?_;rintro E W3 ⟨rfl,hG3⟩;have HG3:=Lib.hid hG3;clear hG3;go_wp2_with fail;go_ret;rw [HV.out];exact ⟨rfl,(HG.out.trans HG2.out).trans HG3.out⟩
   ·have hsx:(x==252)=false:=by simpa using h252
    have HV:=Lib.hid hopm;clear hopm hs h252;generalize bN x=im at *;obtain ⟨iv,ib⟩:=im;cases ib
    ·have HV:=Lib.hid (show opM sat B a 0=(0,a,108)from HV.out);go_enter Tryz.func145,Tryz.ntmps145;go_wp2_with fail;refine H.out.mono ?_;rintro E W1 ⟨rfl,hG⟩;have HR1:=Lib.hid (HR.out.goes hRp hG);have HG:=Lib.hid hG;clear hG;go_wp2_with fail;refine (bW _ _ _ _ _ _ _ _ _ true HR1.out HG.out.1 rfl).mono ?_;rintro E w' ⟨rfl,rfl⟩;go_wp2_with fail;refine (HM.out _).mono ?_;rintro E W2 ⟨rfl,hB2⟩;have HG2:=Lib.hid (show Goes W1 W2 p q B a 0 from ⟨HG.out.1.below hB2,aL hB2 _⟩);have HR2:=Lib.hid (HR1.out.goes hRp HG2.out);obtain ⟨s0,s1,s2,sf,slt⟩:=HR2.out.cells;clear hB2;go_wp2_with fail;refine (eD _ _ _ _ _ _ 108 HG2.out.1 rfl).mono ?_;rintro E W3 ⟨rfl,hG3⟩;have HG3:=Lib.hid hG3;clear hG3;go_wp2_with fail;go_ret;rw [HV.out];exact ⟨rfl,(HG.out.trans HG2.out).trans HG3.out⟩
    ·have HV:=Lib.hid (show opM sat B a 0=(x,a+1,0)from HV.out);go_enter Tryz.func145,Tryz.ntmps145;go_wp2_with fail;refine H.out.mono ?_;rintro E W1 ⟨rfl,hG⟩;have HR1:=Lib.hid (HR.out.goes hRp hG);have HG:=Lib.hid hG;clear hG;go_wp2_with fail;refine (bW _ _ _ _ _ _ _ _ _ true HR1.out HG.out.1 rfl).mono ?_;rintro E w' ⟨rfl,rfl⟩;go_wp2_with fail;refine (HM.out _).mono ?_;rintro E W2 ⟨rfl,hB2⟩;have HG2:=Lib.hid (show Goes W1 W2 p q B a 0 from ⟨HG.out.1.below hB2,aL hB2 _⟩);have HR2:=Lib.hid (HR1.out.goes hRp HG2.out);obtain ⟨s0,s1,s2,sf,slt⟩:=HR2.out.cells;clear hB2;go_wp2_with fail;refine (iw _ _ _ _ _ _ HG2.out.1 HB.out).mono ?_;rintro E W3 ⟨rfl,hG3⟩;rw [HBy.out]at hG3;have HG3:=Lib.hid hG3;clear hG3;go_wp2_with fail;go_ret;rw [HV.out];exact ⟨rfl,(HG.out.trans HG2.out).trans HG3.out⟩
 ·rw [if_neg he]at hopm;have HV:=Lib.hid hopm;have he2:=Lib.hid (beq_eq_false_iff_ne.2 he);clear hopm hpg hB he;go_enter Tryz.func145,Tryz.ntmps145;go_wp2_with fail;refine H.out.mono ?_;rintro E W1 ⟨rfl,hG⟩;have HR1:=Lib.hid (HR.out.goes hRp hG);have HG:=Lib.hid hG;clear hG;go_wp2_with fail;refine (bW _ _ _ _ _ _ _ _ _ false HR1.out HG.out.1 he2.out).mono ?_;rintro E w' ⟨rfl,rfl⟩;go_wp2_with fail;go_ret;rw [HV.out];exact ⟨rfl,HG.out⟩
def jf (n:Nat):Int:=((2 ^ n:Nat):Int)
theorem um (W:World) (n:Nat) (hn:n≤63):Calls Tryz.prog 100 #[.int .i64 n] W fun E w' =>E= .returned (.int .u64 (jf n))∧W=w' :=by
 go_enter Tryz.func100,Tryz.ntmps100;go_wp2_with fail;go_loop [3,4] (fun u k=>∃j:Nat,j≤n∧k= .int .i64 j∧u= .int .u64 (jf j)) (fun _ k=>n - (intOf k).toNat)
 case atStart=>exact ⟨0,Nat.zero_le _,rfl,rfl⟩
 case round=>
  obtain ⟨j,hj,rfl,rfl⟩:=hrel;by_cases hlt:j< n
  ·have h1:2 ^ j≤2 ^ 62:=Nat.pow_le_pow_right (by omega) (by omega);have HP:=Lib.hid (show jf (j+1)=2 * jf j from by unfold jf;rw [Nat.pow_succ,Nat.mul_comm,Int.natCast_mul];rfl);have h2:jf j≤4611686018427387904:=by unfold jf;generalize 2 ^ j=t at *;omega
   have h3:0≤jf j:=Int.natCast_nonneg _;clear h1;generalize jf j=t at *;go_wp2_with fail;go_round
   case rel=>exact ⟨j+1,by omega,by go_num,by rw [HP.out]⟩
   case measure=>simp [intOf];omega
  ·obtain rfl:j=n:=by omega
   obtain ⟨t,ht⟩:∃t,jf j=t:=⟨_,rfl⟩;rw [ht];have HT:=Lib.hid ht;clear ht;go_wp2_with fail;go_ret;exact ⟨by rw [HT.out];rfl,rfl⟩
def vW (W:World) (r:Except Int (Nat×Nat)) (E:Ending) (w' :World):Prop:=
 W=w' ∧(match r with
 | .error e=>E= .returned (.tuple #[.int .u64 0, .int .i64 0, .int .i64 e])
 | .ok (n,nx)=>E= .returned (.tuple #[.int .u64 (n:Int), .int .i64 (nx:Int), .int .i64 0]))
theorem yH {B:List Int} {a bits:Nat} {x:Int} (hB:aK B) (hx:B[a]? =some x) (hb:bits≤64) (h1:¬x< 128) (h2:¬bits≤7):
  bQ B a bits=match bQ B (a+1) (bits - 7)with| .error e=> .error e| .ok (m,nx)=> .ok ((x - 128).toNat+128 * m,nx):=by
 unfold bQ;rw [gF hx,bZ,if_neg h1,if_neg h2]
 cases hr:bZ jk (B.drop (a+1)) (bits - 7)with
 |error e=>rfl
 |ok y=>
  obtain ⟨m,h,c⟩:=y;have hm:=kX _ _ _ _ _ (by omega) (fun x hx=>hB.2 x (List.mem_of_mem_drop hx)) hr;have hp:2 ^(bits - 7)≤2 ^ 57:=Nat.pow_le_pow_right (by omega) (by omega);have hxb:=hB.get hx;simp only [Except.ok.injEq,Prod.mk.injEq];refine ⟨?_,by omega⟩;rw [Nat.mod_eq_of_lt (a:=m) (by omega),Nat.mod_eq_of_lt (by omega)]
theorem Dq {B:List Int} {a bits n nx:Nat} (hB:aK B) (hb1:1≤bits) (hb:bits≤64) (h:bQ B a bits= .ok (n,nx)):n< 2 ^ bits:=by
 unfold bQ at h
 cases hr:bZ jk (B.drop a) bits with
 |error e=>rw [hr]at h;cases h
 |ok y=>
  obtain ⟨m,hh,c⟩:=y;rw [hr]at h;cases h
  have:=kX _ _ _ _ _ hb1 (fun x hx=>hB.2 x (List.mem_of_mem_drop hx)) hr;exact Nat.lt_of_le_of_lt (Nat.mod_le _ _) this
theorem Ba (q:Nat) (A:Option Addr) (c:Nat) (B:List Int) (hB:aK B) (hc:B.length≤c):∀(bits a:Nat) (W:World),1≤bits→bits≤64→a≤B.length→ByQ W q A B→
  Calls Tryz.prog 66 #[.slice A B.length c, .int .i64 a, .int .i64 bits] W (vW W (bQ B a bits)):=by
 intro bits
 induction bits using Nat.strongRecOn with
 |ind bits ih=>
 intro a W hb1 hb2 ha hQ;have IH:=Lib.hid ih;have hl:=hB.1;clear ih;rcases Nat.lt_or_ge a B.length with hlt|hge
 ·obtain ⟨o,x,rfl,hx,hcc⟩:=hQ.at_ a hlt;have hxb:=hB.get hx.out;have hx0:=hxb.1;have hx1:=hxb.2;have hlt3:(a:Int)<(B.length:Int):=by omega
  have HQ:=Lib.hid hQ;have HB:=Lib.hid hB;clear hQ hB hxb;by_cases h128:x< 128
  ·by_cases h7:bits< 7
   ·by_cases hge:x< jf bits
    ·have HV:=Lib.hid (show bQ B a bits= .ok (x.toNat,a+1)from by
      unfold bQ;rw [gF hx.out,bZ,if_pos h128,if_pos (by simp only [jk,Int.toNat_natCast,Bool.or_eq_true,decide_eq_true_eq];right;unfold jf at hge;rw [Int.natCast_pow]at hge;exact hge)];show Except.ok (x.toNat % 18446744073709551616,a+1)=_
      rw [Nat.mod_eq_of_lt (by omega)])
     have HT:=Lib.hid (um W bits (by omega));generalize jf bits=t at *;go_enter Tryz.func66,Tryz.ntmps66;go_wp2_with (go_at_call 100;refine HT.out.mono ?_;rintro e w' ⟨rfl,rfl⟩);refine bodyPost_ret (results_tmp3 rfl _ _ _) rfl ?_;rw [HV.out];exact ⟨rfl,by show _=_;rw [Int.toNat_of_nonneg hx0];rfl⟩
    ·have HV:=Lib.hid (show bQ B a bits= .error 101 from by
      unfold bQ
      rw [gF hx.out,bZ,if_pos h128,if_neg (by simp only [jk,Int.toNat_natCast,Bool.or_eq_true,decide_eq_true_eq,not_or];unfold jf at hge;rw [Int.natCast_pow]at hge;exact ⟨by omega,hge⟩)])
     have HT:=Lib.hid (um W bits (by omega));generalize jf bits=t at *;go_enter Tryz.func66,Tryz.ntmps66;go_wp2_with (go_at_call 100;refine HT.out.mono ?_;rintro e w' ⟨rfl,rfl⟩);refine bodyPost_ret (results_tmp3 rfl _ _ _) rfl ?_;rw [HV.out];exact ⟨rfl,rfl⟩
   ·have HV:=Lib.hid (show bQ B a bits= .ok (x.toNat,a+1)from by
     unfold bQ;rw [gF hx.out,bZ,if_pos h128,if_pos (by simp only [jk,Bool.or_eq_true,decide_eq_true_eq];left;omega)];show Except.ok (x.toNat % 18446744073709551616,a+1)=_
     rw [Nat.mod_eq_of_lt (by omega)])
    go_enter Tryz.func66,Tryz.ntmps66;go_wp2_with fail;refine bodyPost_ret (results_tmp3 rfl _ _ _) rfl ?_;rw [HV.out];exact ⟨rfl,by show _=_;rw [Int.toNat_of_nonneg hx0];rfl⟩
  ·by_cases h7:bits≤7
   ·have HV:=Lib.hid (show bQ B a bits= .error 101 from by
     unfold bQ
     rw [gF hx.out,bZ,if_neg h128,if_pos h7])
    go_enter Tryz.func66,Tryz.ntmps66;go_wp2_with fail;refine bodyPost_ret (results_tmp3 rfl _ _ _) rfl ?_;rw [HV.out];exact ⟨rfl,rfl⟩
   ·have HV:=Lib.hid (yH HB.out hx.out hb2 h128 h7);have HR:=Lib.hid (IH.out (bits - 7) (by omega) (a+1) W (by omega) (by omega) (by omega) HQ.out);have hcb:(((bits - 7:Nat):Nat):Int)=(bits:Int) - 7:=by omega
    have hca:(((a+1:Nat):Nat):Int)=(a:Int)+1:=by omega
    rw [hcb,hca]at HR;have HL:=Lib.hid (fun m nx=>Dq (a:=a+1) (bits:=bits - 7) (n:=m) (nx:=nx) HB.out (by omega) (by omega));have hp:2 ^(bits - 7)≤2 ^ 57:=Nat.pow_le_pow_right (by omega) (by omega);have HPP:=Lib.hid hp;clear hcb hca hp
    cases hu:bQ B (a+1) (bits - 7)with
    |error e=>
     have he:=mD hu;have he2:(e !=0)=true:=by simp only [bne,he];rfl
     rw [hu]at HR HV;clear hu he;go_enter Tryz.func66,Tryz.ntmps66;go_wp2_with fail;refine HR.out.mono ?_;rintro E w' ⟨rfl,rfl⟩;go_wp2_with fail;refine bodyPost_ret (results_tmp3 rfl _ _ _) rfl ?_;rw [HV.out];exact ⟨rfl,rfl⟩
    |ok y=>
     obtain ⟨m,nx⟩:=y;have hm:(m:Int)≤144115188075855871:=by have h1:=HL.out m nx hu;have:=HPP.out;omega
     rw [hu]at HR HV;clear hu;go_enter Tryz.func66,Tryz.ntmps66;go_wp2_with fail;refine HR.out.mono ?_;rintro E w' ⟨rfl,rfl⟩;go_wp2_with fail;refine bodyPost_ret (results_tmp3 rfl _ _ _) rfl ?_;rw [HV.out];refine ⟨rfl, ?_⟩;show _=_
     have e1:(((x - 128).toNat+128 * m:Nat):Int)=x - 128+128 * m:=by omega
     have e2:IntKind.u64.wrap (x - 128+IntKind.u64.wrap (128 * (m:Int)))=x - 128+128 * m:=by rw [IntKind.wrap_u64,IntKind.wrap_u64];omega
     rw [e1,←e2];rfl
 ·obtain rfl:a=B.length:=by omega
  have HV:=Lib.hid (show bQ B B.length bits= .error 100 from by unfold bQ;rw [qi]);clear hQ hB;go_enter Tryz.func66,Tryz.ntmps66;go_wp2_with fail;refine bodyPost_ret (results_tmp3 rfl _ _ _) rfl ?_;rw [HV.out];exact ⟨rfl,rfl⟩
def dO (B:List Int) (a:Nat) (e:Int):Nat×Int:=if e=0 then (match B[a]? with|none=>(a,100)|some x=>if x=0 then (a+1,0)else (a+1,107))else (a,e)
theorem vI (W:World) (R p q:Nat) (sat:Bool) (deep:Int) (B:List Int) (a:Nat) (e:Int) (hR:Rp W R p sat deep) (hRp:R≠p) (hC:Cur W p q B a e) (hB:aK B):
  Calls Tryz.prog 148 #[.pointer (some ⟨R,0,none⟩)] W fun E w' =>E= .returned (.tuple #[])∧Goes W w' p q B (dO B a e).1 (dO B a e).2:=by
 obtain ⟨r0,r1,r2,rf,rlt⟩:=hR.cells;have HA:=Lib.hid (Et W p q B a e hC);have H:=Lib.hid (iw W p q B a e hC hB);have HR:=Lib.hid hR;by_cases hx:e=0∧∃x,B[a]? =some x∧¬x=0
 ·obtain ⟨rfl,x,hx,hx0⟩:=hx;have HV:=Lib.hid (show dO B a 0=(a+1,107)from by simp [dO,hx,hx0]);have hby:aQ B a 0=(x,a+1,0):=by simp [aQ,hx]
  rw [hby]at H;have hxb:(x !=0)=true:=by simp;exact hx0
  clear hC hB hR hx hx0 hby;go_enter Tryz.func148,Tryz.ntmps148;go_wp2_with fail;refine HA.out.mono ?_;rintro E w' ⟨rfl,rfl⟩;go_wp2_with fail;refine H.out.mono ?_;rintro E W1 ⟨rfl,hG⟩;have hG' :Goes W W1 p q B (a+1) 0:=hG;have HR1:=Lib.hid (HR.out.goes hRp hG');obtain ⟨s0,s1,s2,sf,slt⟩:=HR1.out.cells;have HG:=Lib.hid hG';clear hG hG' H;go_wp2_with fail;refine (Et _ _ _ _ _ _ HG.out.1).mono ?_;rintro E w' ⟨rfl,rfl⟩;go_wp2_with fail;refine (eD _ _ _ _ _ _ 107 HG.out.1 rfl).mono ?_;rintro E W3 ⟨rfl,hG3⟩;have HG3:=Lib.hid hG3;clear hG3;go_wp2_with fail;go_end0;rw [HV.out];exact ⟨rfl,HG.out.trans HG3.out⟩
 ·have HV:=Lib.hid (show (aQ B a e).1=0∧dO B a e=(aQ B a e).2 from by
   unfold aQ dO;by_cases he:e=0
   ·simp only [he,if_true]
    cases hb:B[a]? with
    |none=>exact ⟨rfl,rfl⟩
    |some x=>
     have h0:x=0:=Classical.byContradiction fun h=>hx ⟨he,x,hb,h⟩
     subst h0;exact ⟨rfl,rfl⟩
   ·simp only [he,if_false,and_self])
  generalize aQ B a e=t at *;obtain ⟨v,a',e'⟩:=t;obtain ⟨h1,h2⟩:=HV.out;simp only at h1;subst h1;have H2:=Lib.hid h2;clear hC hB hR hx h2 HV;go_enter Tryz.func148,Tryz.ntmps148;go_wp2_with fail;refine HA.out.mono ?_;rintro E w' ⟨rfl,rfl⟩;go_wp2_with fail;refine H.out.mono ?_;rintro E W1 ⟨rfl,hG⟩;have HG:=Lib.hid hG;clear hG H;go_wp2_with fail;go_end0;rw [H2.out];exact ⟨rfl,HG.out⟩
def jL (B:List Int):Nat→Nat→Int→List Int→List Int×Nat×Int
 |0,a,e,acc=>(acc,a,e)
 |k+1,a,e,acc=>if e=0 then jL B k (az (aI B a) a 0).2.1 (az (aI B a) a 0).2.2 (acc++ [(az (aI B a) a 0).1])else (acc,a,e)
theorem lK (B:List Int) (k a:Nat) (e:Int) (acc:List Int) (he:¬e=0):jL B k a e acc=(acc,a,e):=by
 cases k with
 |zero=>rfl
 |succ k=>rw [jL,if_neg he]
def bT (B:List Int) (a:Nat) (e:Int):List Int×Nat×Int:=jL B (az (aG B a) a e).1.toNat (az (aG B a) a e).2.1 (az (aG B a) a e).2.2 []
theorem pE (B:List Int) (a:Nat) (e:Int) (hB:aK B):0≤(az (aG B a) a e).1∧(az (aG B a) a e).1≤4096:=by
 unfold az;by_cases he:e=0
 ·rw [if_pos he]
  cases hu:aG B a with
  |error e' =>simp [dm]
  |ok y=>
   obtain ⟨n,nx⟩:=y;have:=oH hB hu;simp only [dm];omega
 ·rw [if_neg he];simp
theorem Ho:(Tryz.prog.info? 30).map (fun i=>(i.zero,i.size,i.bytes))=some (some (.int .u32 0),1,4):=by kernel_rfl
theorem CY {W:World} {ok:Nat→Prop} {x:Int} (h0:0≤x) (h1:x≤4294967295):FK (rng .u32) W ok x [.int .u32 x]:=fun _ _=>⟨rfl,by simp [Lit.wf,IntKind.min,IntKind.max,IntKind.signed,IntKind.bits];omega⟩
theorem ru {W W2 w1:World} {p q:Nat} {B:List Int} {a a0:Nat} {e e0:Int} {row:Option Nat} (hC:Cur W p q B a0 e0) (h:Goes W W2 p q B a e) (hg:W2.grownBy w1 row) (hr:∀k,row=some k→W.heap.size≤k):Goes W w1 p q B a e:=by
 have hb:∀k,k< W.heap.size→w1.heap[k]? =W2.heap[k]? :=fun k hk=>hg.block k (Nat.lt_of_lt_of_le hk h.2.size) (fun e=>by have:=hr k e.symm;omega)
 have hp:=hC.lt;refine ⟨?_,⟨hg.os.trans h.2.os,hg.tape.trans h.2.tape,hg.output.trans h.2.output,Nat.le_trans h.2.size hg.size,fun k hk hne=>(hb k hk).trans (h.2.block k hk hne)⟩⟩;rcases Nat.eq_zero_or_pos B.length with hz|hz
 ·obtain ⟨h0,h1,A,c,h2,h3,h4⟩:=h.1;exact ⟨h0,h1,A,c,h2,h3.grown hg (fun e=>by have:=hr p e.symm;omega),fun hp=>by omega⟩
 ·obtain ⟨_,_,A,c,_,_,h4⟩:=hC;obtain ⟨o,_,hcell⟩:=h4 hz;have hq:=World.block_lt_of_cell? _ _ (hcell 0 _ (List.getElem?_eq_getElem hz));exact h.1.grown hg (fun e=>by have:=hr p e.symm;omega) (fun e=>by have:=hr q e.symm;simp only at hq;omega)
def ET (W:World) (p q:Nat) (B:List Int) (r:List Int×Nat×Int) (E:Ending) (w' :World):Prop:=
 (∃A c,E= .returned (.slice A r.1.length c)∧r.1.length≤c∧FC (rng .u32) w' (fun k=>W.heap.size≤k) A r.1)∧Goes W w' p q B r.2.1 r.2.2
theorem w9 (W:World) (R p q:Nat) (sat:Bool) (deep:Int) (B:List Int) (a:Nat) (e:Int) (hR:Rp W R p sat deep) (hRp:R≠p) (hC:Cur W p q B a e) (hB:aK B):
  Calls Tryz.prog 147 #[.pointer (some ⟨R,0,none⟩)] W (ET W p q B (bT B a e)):=by
 obtain ⟨r0,r1,r2,rf,rlt⟩:=hR.cells;have hplt:=hC.lt;have H:=Lib.hid (eT W p q B a e hC hB);have hb:=pE B a e hB;have HV:=Lib.hid (show bT B a e=jL B (az (aG B a) a e).1.toNat (az (aG B a) a e).2.1 (az (aG B a) a e).2.2 []from rfl);have HR:=Lib.hid hR;have HB:=Lib.hid hB;have HC0:=Lib.hid hC;generalize az (aG B a) a e=t at *;obtain ⟨ni,a0,e0⟩:=t;obtain ⟨n,rfl⟩:=Int.eq_ofNat_of_zero_le hb.1;have hn:(n:Int)≤4096:=hb.2;rw [show ((n:Int).toNat)=n from Int.toNat_natCast n]at HV;clear hC hB hR hb;go_enter Tryz.func147,Tryz.ntmps147;go_wp2_with fail;refine H.out.mono ?_;rintro E W1 ⟨rfl,hG⟩;have hG' :Goes W W1 p q B a0 e0:=hG;have HG0:=Lib.hid hG';clear hG hG' H r0 r1 r2 rf;go_wp2_with fail;go_loopw [3,5] (fun v i wr=>∃(j a1:Nat) (e1:Int) (xs:List Int),j≤n∧i= .int .i64 j∧xs.length=j∧Own (rng .u32) 30 wr W.heap.size (fun k=>W.heap.size≤k) v xs∧Goes W wr p q B a1 e1∧Hid (bT B a e=jL B (n - j) a1 e1 xs)) (fun _ i _=>n - (intOf i).toNat)
 case atStart=>exact ⟨0,a0,e0, [],Nat.zero_le _,rfl,rfl,Own.nil,HG0.out,HV.out⟩
 case round=>
  obtain ⟨j,a1,e1,xs,hj,rfl,hxl,hown,hGo,hlab⟩:=hrel;have hsz:=hGo.2.size;have HX:=Lib.hid hxl;have HR1:=Lib.hid (HR.out.goes hRp hGo);obtain ⟨s0,s1,s2,sf,slt⟩:=HR1.out.cells;have HGo:=Lib.hid hGo;have HO:=Lib.hid hown;clear hxl hGo hown;by_cases hfin:j< n∧e1=0
  ·obtain ⟨hlt,rfl⟩:=hfin;have hlt2:(j:Int)<(n:Int):=by omega
   have hub:=dD B a1 0 HB.out;have HU:=Lib.hid (dG wr p q B a1 0 HGo.out.1 HB.out)
   have HL:=Lib.hid (show bT B a e=jL B (n - (j+1)) (az (aI B a1) a1 0).2.1 (az (aI B a1) a1 0).2.2 (xs++ [(az (aI B a1) a1 0).1])from by
    rw [hlab.out,show n - j=n - (j+1)+1 from by omega,jL,if_pos rfl])
   generalize az (aI B a1) a1 0=t at *;obtain ⟨x,a2,e2⟩:=t;obtain ⟨hx0,hx1⟩:=hub;go_wp2_with fail;refine (bW _ _ _ _ _ _ _ _ _ true HR1.out HGo.out.1 rfl).mono ?_;rintro E w' ⟨rfl,rfl⟩;go_wp2_with fail;refine HU.out.mono ?_;rintro E W2 ⟨rfl,hG2⟩;have hG2' :Goes wr W2 p q B a2 e2:=hG2;have hob:∀k,u3.ownBlock=some k→W.heap.size≤k:=fun k hk=>(HO.out.block hk).1
   have hO2:Own (rng .u32) 30 W2 W.heap.size (fun k=>W.heap.size≤k) u3 xs:=HO.out.grown hG2'.2 (by
    cases hv:u3.ownBlock with
    |none=>exact .inl rfl
    |some k=>right;intro h;injection h with h;have:=hob k hv;omega) (fun k hk h=>by injection h with h;omega)
   have HGt:=Lib.hid (HGo.out.trans hG2');have hsz2:=HGt.out.2.size;have hxl:=HX.out;clear hG2 hG2' HU;have hO3:=Lib.hid hO2;clear hO2 hob;go_wp2_with (at_builtin;refine Own.append (d:=rng .u32) W.heap.size rfl (.tmp 20) (.tmp 26) 69 30 (.int .u32 0) 4 rfl Tryz.underlying69 Ho rfl (by decide) (by decide) u3 xs x [.int .u32 x] (fun k=>W.heap.size≤k) rfl rfl (CY hx0 hx1) hO3.out hsz2 (by omega) ?_;intro v1 w1 hown1 hg1 hat1);have hg1' :W2.grownBy w1 u3.ownBlock:=hg1;have HO4:=Lib.hid hown1;have HG4:=Lib.hid (show Goes W w1 p q B a2 e2 from ru HC0.out HGt.out hg1' (fun k hk=>(hO3.out.block hk).1));clear hown1 hg1 hg1' hat1 hxl;go_wp2_with fail;go_roundw
   case rel=>exact ⟨j+1,a2,e2,xs++ [x],by omega,by go_num,by rw [List.length_append,HX.out];rfl,HO4.out,HG4.out,HL⟩
   case measure=>simp [intOf];omega
  ·have HL:=Lib.hid (show bT B a e=(xs,a1,e1)from by
    by_cases he:e1=0
    ·have:j=n:=by omega
     rw [hlab.out,this,Nat.sub_self];rfl
    ·rw [hlab.out,lK _ _ _ _ _ he])
   obtain ⟨A,c,rfl,hle,hF⟩:=HO.out.reads;have HF:=Lib.hid (hF.mono (ok' :=fun k=>W.heap.size≤k) (fun k hk=>hk.elim id id));clear hF;by_cases hlt:j< n
   ·have he:¬e1=0:=fun h=>hfin ⟨hlt,h⟩
    have he2:=Lib.hid (beq_eq_false_iff_ne.2 he);clear hfin he;go_wp2_with fail;refine (bW _ _ _ _ _ _ _ _ _ false HR1.out HGo.out.1 he2.out).mono ?_;rintro E w' ⟨rfl,rfl⟩;go_wp2_with fail;go_ret;rw [HL.out];exact ⟨⟨A,c,rfl,hle,HF.out⟩,HGo.out⟩
   ·obtain rfl:j=n:=by omega
    clear hfin;go_wp2_with fail;go_ret;rw [HL.out];exact ⟨⟨A,c,rfl,hle,HF.out⟩,HGo.out⟩
theorem Eg (m h y:Nat) (hm:m< 2 ^ h) (h7:1≤h) (hy:y< 128):(128 * nW m h+y) % 18446744073709551616=nW (y+128 * m) (h+7):=by
 obtain ⟨k,rfl⟩:∃k,h=k+1:=⟨h - 1,by omega⟩;unfold nW;have e1:2 ^(k+1+7)=256 * 2 ^ k:=by rw [show k+1+7=k+8 from by omega,Nat.pow_add];rw [show (2:Nat) ^ 8=256 from rfl,Nat.mul_comm]
 have e2:2 ^(k+1)=2 * 2 ^ k:=by rw [Nat.pow_succ,Nat.mul_comm]
 have e3:2 ^(k+1+7 - 1)=128 * 2 ^ k:=by rw [show k+1+7 - 1=k+7 from by omega,Nat.pow_add];rw [show (2:Nat) ^ 7=128 from rfl,Nat.mul_comm]
 rw [show k+1 - 1=k from rfl,e1,e2,e3];rw [e2]at hm;by_cases h64:k+1+7< 64
 ·have hp:2 ^ k≤2 ^ 55:=Nat.pow_le_pow_right (by omega) (by omega);generalize 2 ^ k=t at *;by_cases hn:t≤m
  ·rw [if_pos ⟨by omega,hn⟩,if_pos ⟨h64,by omega⟩];omega
  ·rw [if_neg (fun h=>hn h.2),if_neg (fun h=>by omega)];omega
 ·rw [if_neg (show ¬(k+1+7< 64∧128 * 2 ^ k≤y+128 * m)from fun h=>h64 h.1)];obtain ⟨u,hu⟩:∃u,256 * 2 ^ k=18446744073709551616 * u:=⟨2 ^(k - 56),by rw [show (256:Nat)=2 ^ 8 from rfl,show (18446744073709551616:Nat)=2 ^ 64 from rfl,←Nat.pow_add,←Nat.pow_add];congr 1;omega⟩;by_cases hn:k+1< 64∧2 ^ k≤m
  ·rw [if_pos hn];have hp:2 ^ k≤2 ^ 62:=Nat.pow_le_pow_right (by omega) (by omega);generalize 2 ^ k=t at *;omega
  ·rw [if_neg hn];omega
theorem xu {B:List Int} {a bits:Nat} {x:Int} (hB:aK B) (hx:B[a]? =some x) (h1:¬x< 128) (h2:¬bits≤7):
  di B a bits=match di B (a+1) (bits - 7)with| .error e=> .error e| .ok (m,nx)=> .ok ((128 * m+(x - 128).toNat) % 18446744073709551616,nx):=by
 unfold di;rw [gF hx,bZ,if_neg h1,if_neg h2]
 cases hr:bZ iY (B.drop (a+1)) (bits - 7)with
 |error e=>rfl
 |ok y=>
  obtain ⟨m,h,c⟩:=y;have hm:=kW _ _ _ _ _ (by omega) (fun x hx=>hB.2 x (List.mem_of_mem_drop hx)) hr;have hxb:=hB.get hx;simp only [Except.ok.injEq,Prod.mk.injEq];exact ⟨(Eg m h (x - 128).toNat hm.1 (by omega) (by omega)).symm,by omega⟩
theorem GM (m h:Nat) (hm:m< 2 ^ h):nW m h< 18446744073709551616:=by
 unfold nW;split
 next hc=>
  have hp:2 ^ h≤2 ^ 63:=Nat.pow_le_pow_right (by omega) (by omega);generalize 2 ^ h=t at *;omega
 ·exact Nat.mod_lt _ (by omega)
theorem BQ {B:List Int} {a bits n nx:Nat} (hB:aK B) (hb1:1≤bits) (h:di B a bits= .ok (n,nx)):n< 18446744073709551616:=by
 unfold di at h
 cases hr:bZ iY (B.drop a) bits with
 |error e=>rw [hr]at h;cases h
 |ok y=>
  obtain ⟨m,hh,c⟩:=y;rw [hr]at h;cases h
  exact GM _ _ (kW _ _ _ _ _ hb1 (fun x hx=>hB.2 x (List.mem_of_mem_drop hx)) hr).1
theorem yI {B:List Int} {a bits:Nat} {x:Int} (hx:B[a]? =some x) (hx0:0≤x) (h1:x< 128):di B a bits=if iY x bits then .ok (if 64≤x then x.toNat+18446744073709551616 - 128 else x.toNat,a+1)else .error 101:=by
 unfold di;rw [gF hx,bZ,if_pos h1]
 cases iY x bits with
 |false=>rfl
 |true=>
  show Except.ok (nW x.toNat 7,a+1)=_
  rw [if_pos rfl,nW,show (2:Nat) ^ 7=128 from rfl,show (2:Nat) ^(7 - 1)=64 from rfl];by_cases h64:64≤x
  ·rw [if_pos ⟨by omega,by omega⟩,if_pos h64]
  ·rw [if_neg (fun h=>h64 (by omega)),if_neg h64,Nat.mod_eq_of_lt (by omega)]
theorem sJ (q:Nat) (A:Option Addr) (c:Nat) (B:List Int) (hB:aK B) (hc:B.length≤c):∀(bits a:Nat) (W:World),1≤bits→bits≤64→a≤B.length→ByQ W q A B→
  Calls Tryz.prog 138 #[.slice A B.length c, .int .i64 a, .int .i64 bits] W (vW W (di B a bits)):=by
 intro bits
 induction bits using Nat.strongRecOn with
 |ind bits ih=>
 intro a W hb1 hb2 ha hQ;have IH:=Lib.hid ih;have hl:=hB.1;clear ih;rcases Nat.lt_or_ge a B.length with hlt|hge
 ·obtain ⟨o,x,rfl,hx,hcc⟩:=hQ.at_ a hlt;have hxb:=hB.get hx.out;have hx0:=hxb.1;have hx1:=hxb.2;have hlt3:(a:Int)<(B.length:Int):=by omega
  have HQ:=Lib.hid hQ;have HB:=Lib.hid hB;clear hQ hB hxb;by_cases h128:x< 128
  ·have HL:=Lib.hid (yI (bits:=bits) hx.out hx0 h128);by_cases h7:bits< 7
   ·have HT:=Lib.hid (um W (bits - 1) (by omega));have hcb:(((bits - 1:Nat):Nat):Int)=(bits:Int) - 1:=by omega
    rw [hcb]at HT;have hH1:1≤jf (bits - 1):=by have:=Nat.two_pow_pos (bits - 1);unfold jf;omega
    have hH2:jf (bits - 1)≤32:=by
     have:2 ^(bits - 1)≤2 ^ 5:=Nat.pow_le_pow_right (by omega) (by omega);unfold jf;omega
    have HS:=Lib.hid (show iY x bits=(decide (-(jf (bits - 1))≤vO x) && decide (vO x< jf (bits - 1)))from by
     have e:(2:Int) ^((bits:Int) - 1).toNat=jf (bits - 1):=by rw [show ((bits:Int) - 1).toNat=bits - 1 from by omega];unfold jf;rw [Int.natCast_pow];rfl
     unfold iY
     rw [e,decide_eq_false (by omega),Bool.false_or])
    generalize jf (bits - 1)=H at *;clear hcb;by_cases h64:64≤x
    ·have HSV:=Lib.hid (show vO x=x - 128 from if_pos h64);by_cases c1: -H≤x - 128
     ·have HV:=Lib.hid (show di B a bits= .ok (x.toNat+18446744073709551616 - 128,a+1)from by
       rw [HL.out,HS.out,HSV.out,decide_eq_true c1,decide_eq_true (by omega),Bool.true_and,if_pos rfl,if_pos h64])
      go_enter Tryz.func138,Tryz.ntmps138;go_wp2_with (go_at_call 100;refine HT.out.mono ?_;rintro e w' ⟨rfl,rfl⟩);refine bodyPost_ret (results_tmp3 rfl _ _ _) rfl ?_;rw [HV.out];refine ⟨rfl, ?_⟩;show _=_
      have e2:IntKind.u64.wrap (x - 128)=((x.toNat+18446744073709551616 - 128:Nat):Int):=by rw [IntKind.wrap_u64];omega
      rw [←e2];rfl
     ·have HV:=Lib.hid (show di B a bits= .error 101 from by
       rw [HL.out,HS.out,HSV.out,decide_eq_false c1];rfl)
      have c3:x - 128< -H:=by omega
      go_enter Tryz.func138,Tryz.ntmps138;go_wp2_with (go_at_call 100;refine HT.out.mono ?_;rintro e w' ⟨rfl,rfl⟩);refine bodyPost_ret (results_tmp3 rfl _ _ _) rfl ?_;rw [HV.out];exact ⟨rfl,rfl⟩
    ·have HSV:=Lib.hid (show vO x=x from if_neg h64);by_cases c1:x< H
     ·have HV:=Lib.hid (show di B a bits= .ok (x.toNat,a+1)from by
       rw [HL.out,HS.out,HSV.out,decide_eq_true c1,decide_eq_true (by omega),Bool.true_and,if_pos rfl,if_neg h64])
      go_enter Tryz.func138,Tryz.ntmps138;go_wp2_with (go_at_call 100;refine HT.out.mono ?_;rintro e w' ⟨rfl,rfl⟩);refine bodyPost_ret (results_tmp3 rfl _ _ _) rfl ?_;rw [HV.out];refine ⟨rfl, ?_⟩;show _=_
      rw [Int.toNat_of_nonneg hx0];rfl
     ·have HV:=Lib.hid (show di B a bits= .error 101 from by
       rw [HL.out,HS.out,HSV.out,decide_eq_false c1,Bool.and_false];rfl)
      go_enter Tryz.func138,Tryz.ntmps138;go_wp2_with (go_at_call 100;refine HT.out.mono ?_;rintro e w' ⟨rfl,rfl⟩);refine bodyPost_ret (results_tmp3 rfl _ _ _) rfl ?_;rw [HV.out];exact ⟨rfl,rfl⟩
   ·have HS:=Lib.hid (show iY x bits=true from by unfold iY;rw [decide_eq_true (by omega),Bool.true_or]);by_cases h64:64≤x
    ·have HV:=Lib.hid (show di B a bits= .ok (x.toNat+18446744073709551616 - 128,a+1)from by
      rw [HL.out,HS.out,if_pos rfl,if_pos h64])
     go_enter Tryz.func138,Tryz.ntmps138;go_wp2_with fail;refine bodyPost_ret (results_tmp3 rfl _ _ _) rfl ?_;rw [HV.out];refine ⟨rfl, ?_⟩;show _=_
     have e2:IntKind.u64.wrap (x - 128)=((x.toNat+18446744073709551616 - 128:Nat):Int):=by rw [IntKind.wrap_u64];omega
     rw [←e2];rfl
    ·have HV:=Lib.hid (show di B a bits= .ok (x.toNat,a+1)from by
      rw [HL.out,HS.out,if_pos rfl,if_neg h64])
     go_enter Tryz.func138,Tryz.ntmps138;go_wp2_with fail;refine bodyPost_ret (results_tmp3 rfl _ _ _) rfl ?_;rw [HV.out];refine ⟨rfl, ?_⟩;show _=_
     rw [Int.toNat_of_nonneg hx0];rfl
  ·by_cases h7:bits≤7
   ·have HV:=Lib.hid (show di B a bits= .error 101 from by
     unfold di
     rw [gF hx.out,bZ,if_neg h128,if_pos h7])
    go_enter Tryz.func138,Tryz.ntmps138;go_wp2_with fail;refine bodyPost_ret (results_tmp3 rfl _ _ _) rfl ?_;rw [HV.out];exact ⟨rfl,rfl⟩
   ·have HV:=Lib.hid (xu HB.out hx.out h128 h7);have HR:=Lib.hid (IH.out (bits - 7) (by omega) (a+1) W (by omega) (by omega) (by omega) HQ.out);have hcb:(((bits - 7:Nat):Nat):Int)=(bits:Int) - 7:=by omega
    have hca:(((a+1:Nat):Nat):Int)=(a:Int)+1:=by omega
    rw [hcb,hca]at HR;clear hcb hca
    cases hu:di B (a+1) (bits - 7)with
    |error e=>
     have he:=iH hu;have he2:(e !=0)=true:=by simp only [bne,he];rfl
     rw [hu]at HR HV;clear hu he;go_enter Tryz.func138,Tryz.ntmps138;go_wp2_with fail;refine HR.out.mono ?_;rintro E w' ⟨rfl,rfl⟩;go_wp2_with fail;refine bodyPost_ret (results_tmp3 rfl _ _ _) rfl ?_;rw [HV.out];exact ⟨rfl,rfl⟩
    |ok y=>
     obtain ⟨m,nx⟩:=y;rw [hu]at HR HV;clear hu;go_enter Tryz.func138,Tryz.ntmps138;go_wp2_with fail;refine HR.out.mono ?_;rintro E w' ⟨rfl,rfl⟩;go_wp2_with fail;refine bodyPost_ret (results_tmp3 rfl _ _ _) rfl ?_;rw [HV.out];refine ⟨rfl, ?_⟩;show _=_
     have e2:IntKind.u64.wrap (IntKind.u64.wrap (128 * (m:Int))+(x - 128))=(((128 * m+(x - 128).toNat) % 18446744073709551616:Nat):Int):=by rw [IntKind.wrap_u64,IntKind.wrap_u64];omega
     rw [←e2];rfl
 ·obtain rfl:a=B.length:=by omega
  have HV:=Lib.hid (show di B B.length bits= .error 100 from by unfold di;rw [qi]);clear hQ hB;go_enter Tryz.func138,Tryz.ntmps138;go_wp2_with fail;refine bodyPost_ret (results_tmp3 rfl _ _ _) rfl ?_;rw [HV.out];exact ⟨rfl,rfl⟩
def fP (op:Int):Ins:= .mk op 0 0 0 0 [] [] [] false
def bE (bk:Bool→Nat→Int→List Ins×Int×Nat×Int) (B:List Int) (op i:Int) (a:Nat):Ins×Nat×Int:=
 if i=1 then
  let t:=az (ek B a) a 0
  let r:=bk (op==4) t.2.1 t.2.2
  if r.2.1=5 then
   let s:=bk false r.2.2.1 r.2.2.2
   (.mk op t.1 0 0 0 [] r.1 s.1 true,s.2.2.1,s.2.2.2)
  else (.mk op t.1 0 0 0 [] r.1 [] false,r.2.2.1,r.2.2.2)
 else if i=2∨i=4 then
  let t:=az (aI B a) a 0
  (.mk op 0 t.1 0 0 [] [] [] false,t.2.1,t.2.2)
 else if i=3 then
  let l:=bT B a 0
  let t:=az (aI B l.2.1) l.2.1 l.2.2
  (.mk op 0 t.1 0 0 l.1 [] [] false,t.2.1,t.2.2)
 else if i=5 then
  let t:=az (aI B a) a 0
  (.mk op 0 t.1 0 0 [] [] [] false,dO B t.2.1 t.2.2)
 else if i=6 then
  let t:=az (aI B a) a 0
  let u:=az (aI B t.2.1) t.2.1 t.2.2
  (.mk op 0 t.1 u.1 0 [] [] [] false,u.2.1,u.2.2)
 else if i=7 then (fP op,dO B a 0)
 else if i=8 then
  let t:=az (fu B a) a 0
  (.mk op 0 0 0 t.1 [] [] [] false,t.2.1,t.2.2)
 else if i=9 then
  let t:=az (fC B a) a 0
  (.mk op 0 0 0 t.1 [] [] [] false,t.2.1,t.2.2)
 else if i=10 then
  let t:=az (dN B a 4) a 0
  (.mk op 0 0 0 t.1 [] [] [] false,t.2.1,t.2.2)
 else if i=11 then
  let t:=az (dN B a 8) a 0
  (.mk op 0 0 0 t.1 [] [] [] false,t.2.1,t.2.2)
 else (fP op,a,0)
def iC (B:List Int) (deep a:Nat) (e:Int):Int:=if (bN (aO B a e).1).1=1∧64≤deep∧(aO B a e).2=0 then 3 else (aO B a e).2
def fQ (bk:Bool→Nat→Int→List Ins×Int×Nat×Int) (sat:Bool) (B:List Int) (deep a:Nat) (e:Int):Ins×Nat×Int:=
 let o:=opM sat B a (iC B deep a e)
 if o.2.2=0 then bE bk B o.1 (bN o.1).1 o.2.1 else (fP 0,o.2.1,o.2.2)
def dh (sat:Bool) (B:List Int):Nat→Nat→Bool→Nat→Int→List Ins→List Ins×Int×Nat×Int
 |0,_,_,a,e,_=>([],0,a,e)
 |f+1,deep,may,a,e,acc=>
  if e=0 then
   match B[a]? with
   |none=>([],0,a,100)
   |some b=>
    if b=11 then (acc,11,a+1,0)
    else if b=5 then (if may then (acc,5,a+1,0)else ([],0,a,108))
    else
     let r:=fQ (fun m a' e' =>dh sat B f (deep+1) m a' e' []) sat B deep a 0
     if r.2.2=0 then dh sat B f deep may r.2.1 0 (acc++ [r.1])else ([],0,r.2.1,r.2.2)
  else ([],0,a,e)
theorem mF {r:Except Int (Nat×Nat)} {a:Nat} {e:Int} (hr:∀n nx,r= .ok (n,nx)→a≤nx) (h:(az r a e).2.2=0):a≤(az r a e).2.1∧e=0:=by
 unfold az at h ⊢;by_cases he:e=0
 ·rw [if_pos he]at h ⊢;rcases r with e' |⟨n,nx⟩
  ·exact ⟨Nat.le_refl _,he⟩
  ·exact ⟨hr n nx rfl,he⟩
 ·rw [if_neg he]at h;exact absurd h he
theorem nk {B:List Int} {a:Nat} {e:Int} (hB:aK B) (h:(az (aI B a) a e).2.2=0):a≤(az (aI B a) a e).2.1∧e=0:=mF (fun n nx hh=>by have:=jO hB hh;omega) h
theorem Ji {B:List Int} {a:Nat} {e:Int} (h:(az (fu B a) a e).2.2=0):a≤(az (fu B a) a e).2.1∧e=0:=mF (fun n nx hh=>by
 unfold fu at hh
 cases hs:di B a 32 with
 |error e=>rw [hs]at hh;cases hh
 |ok y=>obtain ⟨m,k⟩:=y;rw [hs]at hh;cases hh;have:=ku hs;omega) h
theorem IA {B:List Int} {a:Nat} {e:Int} (h:(az (fC B a) a e).2.2=0):a≤(az (fC B a) a e).2.1∧e=0:=mF (fun n nx hh=>by have:=ku hh;omega) h
theorem C9 {B:List Int} {a n:Nat} {e:Int} (h:(az (dN B a n) a e).2.2=0):a≤(az (dN B a n) a e).2.1∧e=0:=mF (fun m nx hh=>by have:=FI hh;omega) h
theorem CO {B:List Int} {a:Nat} {e:Int} (hB:aK B) (h:(az (aG B a) a e).2.2=0):a≤(az (aG B a) a e).2.1∧e=0:=mF (fun m nx hh=>by have:=oH hB hh;omega) h
theorem uJ {B:List Int} {a:Nat} {e:Int} (h:(az (ek B a) a e).2.2=0):a≤(az (ek B a) a e).2.1∧e=0:=mF (fun m nx hh=>by
 unfold ek aV at hh
 cases hx:B[a]? with
 |none=>rw [hx]at hh;cases hh
 |some x=>
  rw [hx]at hh;simp only at hh;split at hh
  ·cases hh
  next h=>split at h<;>cases h;cases hh;omega) h
theorem yV {B:List Int} {a:Nat} {e:Int} (h:(dO B a e).2=0):a≤(dO B a e).1∧e=0:=by
 unfold dO at h ⊢;by_cases he:e=0
 ·rw [if_pos he]at h ⊢;refine ⟨?_,he⟩
  cases B[a]? with
  |none=>exact Nat.le_refl _
  |some x=>simp only;split<;>simp
 ·rw [if_neg he]at h;exact absurd h he
theorem El {B:List Int} (hB:aK B):∀(k a:Nat) (e:Int) (acc:List Int),(jL B k a e acc).2.2=0→a≤(jL B k a e acc).2.1∧e=0
 |0,a,e,acc,h=>⟨Nat.le_refl _,h⟩
 |k+1,a,e,acc,h=>by
  rw [jL]at h ⊢;by_cases he:e=0
  ·rw [if_pos he]at h ⊢;have ih:=El hB k _ _ _ h;have:=nk hB ih.2;exact ⟨by omega,he⟩
  ·rw [if_neg he]at h;exact absurd h he
theorem zw {B:List Int} {a:Nat} {e:Int} (hB:aK B) (h:(bT B a e).2.2=0):a≤(bT B a e).2.1∧e=0:=by
 unfold bT at h ⊢;have h1:=El hB _ _ _ _ h;have h2:=CO hB h1.2;exact ⟨by omega,h2.2⟩
def xW (bk:Bool→Nat→Int→List Ins×Int×Nat×Int):Prop:=∀m a e,(bk m a e).2.2.2=0→a≤(bk m a e).2.2.1∧e=0
theorem Fv {bk:Bool→Nat→Int→List Ins×Int×Nat×Int} {B:List Int} {op i:Int} {a:Nat} (hB:aK B) (hbk:xW bk) (h:(bE bk B op i a).2.2=0):a≤(bE bk B op i a).2.1:=by
 unfold bE at h ⊢;simp only at h ⊢;by_cases h1:i=1
 ·simp only [h1,if_true]at h ⊢;split at h
  next h5=>
   rw [if_pos h5];have g3:=hbk _ _ _ h;have g2:=hbk _ _ _ g3.2;have g1:=uJ g2.2;simp only at g3 ⊢;omega
  next h5=>
   rw [if_neg h5];have g2:=hbk _ _ _ h;have g1:=uJ g2.2;simp only at g2 ⊢;omega
 ·simp only [h1,if_false]at h ⊢;split at h
  next c=>rw [if_pos c];exact (nk hB h).1
  next c=>
  rw [if_neg c];split at h
  next c=>rw [if_pos c];have g2:=nk hB h;have g1:=zw hB g2.2;simp only at g2 ⊢;omega
  next c=>
  rw [if_neg c];split at h
  next c=>rw [if_pos c];have g2:=yV h;have g1:=nk hB g2.2;simp only at g2 ⊢;omega
  next c=>
  rw [if_neg c];split at h
  next c=>rw [if_pos c];have g2:=nk hB h;have g1:=nk hB g2.2;simp only at g2 ⊢;omega
  next c=>
  rw [if_neg c];split at h
  next c=>rw [if_pos c];exact (yV h).1
  next c=>
  rw [if_neg c];split at h
  next c=>rw [if_pos c];exact (Ji h).1
  next c=>
  rw [if_neg c];split at h
  next c=>rw [if_pos c];exact (IA h).1
  next c=>
  rw [if_neg c];split at h
  next c=>rw [if_pos c];exact (C9 h).1
  next c=>
  rw [if_neg c];split at h
  next c=>rw [if_pos c];exact (C9 h).1
  next c=>rw [if_neg c];exact Nat.le_refl _
theorem Hm {sat:Bool} {B:List Int} {a:Nat} {e:Int} (hB:aK B) (h:(opM sat B a e).2.2=0):a+1≤(opM sat B a e).2.1∧e=0∧∃x,B[a]? =some x:=by
 unfold opM at h ⊢;by_cases hp:(aO B a e).2=0
 ·obtain ⟨x,hx⟩:∃x,aO B a e=(x,0):=⟨(aO B a e).1,by rw [←hp]⟩;have hg:=gG hx;rw [if_pos hp]at h ⊢;split at h
  next c=>
   rw [if_pos c];unfold fD at h ⊢;simp only at h ⊢
   have:(az (aI B (a+1)) (a+1) 0).2.2=0:=by
    split at h
    ·unfold cz at h;split at h
     ·cases h
     ·assumption
    ·exact h
   exact ⟨(nk hB this).1,hg.1,x,hg.2⟩
  next c=>
   rw [if_neg c];split at h
   next c2=>rw [if_pos c2];exact ⟨Nat.le_refl _,hg.1,x,hg.2⟩
   next c2=>cases h
 ·rw [if_neg hp]at h;exact absurd h hp
theorem xN {bk:Bool→Nat→Int→List Ins×Int×Nat×Int} {sat:Bool} {B:List Int} {deep a:Nat} {e:Int} (hB:aK B) (hbk:xW bk) (h:(fQ bk sat B deep a e).2.2=0):a+1≤(fQ bk sat B deep a e).2.1:=by
 unfold fQ at h ⊢;simp only at h ⊢;split at h
 next c=>
  rw [if_pos c];have g1:=(Hm hB c).1;have g2:=Fv hB hbk h;omega
 next c=>exact absurd h c
theorem ow {sat:Bool} {B:List Int} (hB:aK B):∀(f deep:Nat) (may:Bool) (a:Nat) (e:Int) (acc:List Ins),(dh sat B f deep may a e acc).2.2.2=0→a≤(dh sat B f deep may a e acc).2.2.1∧e=0
 |0,deep,may,a,e,acc,h=>⟨Nat.le_refl _,h⟩
 |f+1,deep,may,a,e,acc,h=>by
  rw [dh]at h ⊢;by_cases he:e=0
  ·rw [if_pos he]at h ⊢;refine ⟨?_,he⟩
   cases hx:B[a]? with
   |none=>exact Nat.le_refl _
   |some b=>
    rw [hx]at h;simp only at h ⊢;split at h
    next c=>rw [if_pos c];simp
    next c=>
    rw [if_neg c];split at h
    next c2=>
     rw [if_pos c2];split at h
     next c3=>rw [if_pos c3];simp
     next c3=>cases h
    next c2=>
    rw [if_neg c2];split at h
    next c3=>
     rw [if_pos c3];have g1:=xN hB (fun m a' e' =>ow hB f (deep+1) m a' e' []) c3;have g2:=ow hB f deep may _ _ _ h;omega
    next c3=>exact absurd h c3
  ·rw [if_neg he]at h;exact absurd h he
def qd (W:World) (p q:Nat) (B:List Int) (r:List Ins×Int×Nat×Int) (E:Ending) (w' :World):Prop:=
 (∃A c,E= .returned (.tuple #[.slice A r.1.length c, .int .u8 r.2.1])∧r.1.length≤c∧FC kI w' (fun k=>W.heap.size≤k) A r.1)∧Goes W w' p q B r.2.2.1 r.2.2.2
def jS (W W' :World) (p q X:Nat) (B:List Int) (a:Nat) (e:Int):Prop:=
 Cur W' p q B a e∧W'.os=W.os∧W'.tape=W.tape∧W'.output=W.output∧W.heap.size≤W'.heap.size∧∀k,k< W.heap.size→k≠p→k≠X→W'.heap[k]? =W.heap[k]?
theorem jS.of {W W' :World} {p q X:Nat} {B:List Int} {a:Nat} {e:Int} (h:Goes W W' p q B a e):jS W W' p q X B a e:=
 ⟨h.1,h.2.os,h.2.tape,h.2.output,h.2.size,fun k hk hp _=>h.2.block k hk (by simpa using hp)⟩
theorem jS.trans {W W1 W2:World} {p q X:Nat} {B:List Int} {a a' :Nat} {e e' :Int} (h:jS W W1 p q X B a e) (h' :jS W1 W2 p q X B a' e'):jS W W2 p q X B a' e' :=by
 obtain ⟨_,h1,h2,h3,h4,h5⟩:=h;obtain ⟨g0,g1,g2,g3,g4,g5⟩:=h';exact ⟨g0,g1.trans h1,g2.trans h2,g3.trans h3,Nat.le_trans h4 g4,fun k hk hp hX=>(g5 k (Nat.lt_of_lt_of_le hk h4) hp hX).trans (h5 k hk hp hX)⟩
theorem jS.set {W W1:World} {p q X:Nat} {B:List Int} {a:Nat} {e:Int} (h:jS W W1 p q X B a e) (hX:X≠p) (hq:X≠q) (j:Nat) (v:Value):jS W (W1.setCell ⟨X,j,none⟩ v) p q X B a e:=by
 obtain ⟨h0,h1,h2,h3,h4,h5⟩:=h;have hg:=bA W1 X j v;exact ⟨h0.grown hg (by simpa using hX.symm) (by simpa using hq.symm),h1,h2,h3,Nat.le_trans h4 hg.size,fun k hk hp hx=>(hg.block k (Nat.lt_of_lt_of_le hk h4) (by simpa using hx)).trans (h5 k hk hp hx)⟩
structure j3 (W W' :World) (p q X R:Nat) (B:List Int) (a:Nat) (e:Int):Prop where
 cur:Cur W' p q B a e
 os:W'.os=W.os
 tape:W'.tape=W.tape
 output:W'.output=W.output
 size:W.heap.size≤W'.heap.size
 block:∀k,k< W.heap.size→k≠p→k≠X→k≠R→W'.heap[k]? =W.heap[k]?
theorem j3.of {W W' :World} {p q X R:Nat} {B:List Int} {a:Nat} {e:Int} (h:Goes W W' p q B a e):j3 W W' p q X R B a e:=
 ⟨h.1,h.2.os,h.2.tape,h.2.output,h.2.size,fun k hk hp _ _=>h.2.block k hk (by simpa using hp)⟩
theorem j3.goes {W W1 W2:World} {p q X R:Nat} {B:List Int} {a a' :Nat} {e e' :Int} (h:j3 W W1 p q X R B a e) (h' :Goes W1 W2 p q B a' e'):j3 W W2 p q X R B a' e' :=
 ⟨h'.1,h'.2.os.trans h.os,h'.2.tape.trans h.tape,h'.2.output.trans h.output,Nat.le_trans h.size h'.2.size,fun k hk hp hX hR=>(h'.2.block k (Nat.lt_of_lt_of_le hk h.size) (by simpa using hp)).trans (h.block k hk hp hX hR)⟩
theorem j3.set {W W1:World} {p q X R:Nat} {B:List Int} {a:Nat} {e:Int} (h:j3 W W1 p q X R B a e) (g:Nat) (hg:g=X∨g=R) (hp:g≠p) (hq:g≠q) (j:Nat) (v:Value):j3 W (W1.setCell ⟨g,j,none⟩ v) p q X R B a e:=by
 have hs:=bA W1 g j v;refine ⟨h.cur.grown hs (by simpa using hp.symm) (by simpa using hq.symm),h.os,h.tape,h.output,Nat.le_trans h.size hs.size,fun k hk hkp hkX hkR=>(hs.block k (Nat.lt_of_lt_of_le hk h.size) ?_).trans (h.block k hk hkp hkX hkR)⟩;rcases hg with rfl|rfl
 ·simpa using hkX
 ·simpa using hkR
theorem j3.fin {W W' :World} {p q X R:Nat} {B:List Int} {a:Nat} {e:Int} {sat:Bool} {deep:Int} (h:j3 W W' p q X R B a e) (hR:Rp W R p sat deep) (hR' :Rp W' R p sat deep):jS W W' p q X B a e:=
 ⟨h.cur,h.os,h.tape,h.output,h.size,fun k hk hp hX=>by
  by_cases hkR:k=R
  ·subst hkR;exact (show W'.heap[k]? =_ from hR').trans (show W.heap[k]? =_ from hR).symm
  ·exact h.block k hk hp hX hkR⟩
theorem Rp.set {W:World} {R p:Nat} {sat:Bool} {deep:Int} (h:Rp W R p sat deep) (d' :Int):Rp (W.setCell ⟨R,2,none⟩ (.int .i64 d')) R p sat d' :=by
 have:=Blk.set h 2 (.int .i64 d');simp at this;exact this
theorem Rp.other {W:World} {R p:Nat} {sat:Bool} {deep:Int} (h:Rp W R p sat deep) (g:Nat) (hg:R≠g) (j:Nat) (v:Value):Rp (W.setCell ⟨g,j,none⟩ v) R p sat deep:=Blk.aJ h _ _ hg
theorem FC.set {α:Type} {d:Kd α} {W:World} {ok:Nat→Prop} {A:Option Addr} {xs:List α} (h:FC d W ok A xs) (g j:Nat) (v:Value) (hg:¬ok g):FC d (W.setCell ⟨g,j,none⟩ v) ok A xs:=Ft.grown h (bA W g j v) (fun k hk e=>by injection e with e;exact hg (e ▸ hk))
theorem FC.goes {α:Type} {d:Kd α} {W W1:World} {ok:Nat→Prop} {A:Option Addr} {xs:List α} {p q:Nat} {B:List Int} {a:Nat} {e:Int} (h:FC d W ok A xs) (hG:Goes W W1 p q B a e) (hg:¬ok p):FC d W1 ok A xs:=Ft.grown h hG.2 (fun k hk e=>by injection e with e;exact hg (e ▸ hk))
def aX (op ty a b bits:Int) (vL vT vE:Value) (has:Bool):Array Value:=#[.int .i64 op, .int .u8 ty, .int .u32 a, .int .u32 b, .int .u64 bits,vL,vT,vE, .bool has]
def Df (W:World) (p q X R:Nat) (sat:Bool) (deep:Int) (B:List Int) (r:Ins×Nat×Int) (E:Ending) (w' :World):Prop:=
 E= .returned (.tuple #[])∧(∃cs:Array Value,∃x',Blk w' X cs 153∧FK kI w' (fun k=>W.heap.size≤k) x' cs.toList∧(r.2.2=0→x' =r.1))∧jS W w' p q X B r.2.1 r.2.2∧Rp w' R p sat deep
theorem Cur.qlt {W:World} {p q:Nat} {B:List Int} {a:Nat} {e:Int} (h:Cur W p q B a e):B= []∨q< W.heap.size:=by
 rcases Nat.eq_zero_or_pos B.length with hz|hz
 ·exact .inl (List.eq_nil_of_length_eq_zero hz)
 ·obtain ⟨_,_,A,c,_,_,h4⟩:=h;obtain ⟨o,_,hcell⟩:=h4 hz;exact .inr (World.block_lt_of_cell? _ _ (hcell 0 _ (List.getElem?_eq_getElem hz)))
theorem jq {op:Int} (h0:0≤op) (h1:op≤5000000000):(Lit.int .i64 op).wf=true:=by simp [Lit.wf,IntKind.min,IntKind.max,IntKind.signed,IntKind.bits];omega
theorem p9 {ty:Int} (h:ty=0∨ty=127∨ty=126∨ty=125∨ty=124):(Lit.int .u8 ty).wf=true:=by rcases h with rfl|rfl|rfl|rfl|rfl<;>rfl
theorem sK (B:List Int) (a:Nat) (e:Int):(az (ek B a) a e).1=0∨(az (ek B a) a e).1=127∨(az (ek B a) a e).1=126∨(az (ek B a) a e).1=125∨(az (ek B a) a e).1=124:=by
 unfold az;by_cases he:e=0
 ·rw [if_pos he];unfold ek aV
  cases hx:B[a]? with
  |none=>exact .inl rfl
  |some x=>
   simp only;by_cases hm:x∈([127,126,125,124,64]:List Int)
   ·rw [if_pos hm];simp only [List.mem_cons,List.mem_nil_iff,or_false]at hm;rcases hm with rfl|rfl|rfl|rfl|rfl<;>simp [dm]
   ·rw [if_neg hm];exact .inl rfl
 ·rw [if_neg he];exact .inl rfl
theorem xY (bk:Bool→Nat→Int→List Ins×Int×Nat×Int) (W:World) (R p q X:Nat) (sat:Bool) (deep:Nat) (B:List Int) (a:Nat) (op:Int) (hR:Rp W R p sat deep) (hRp:R≠p) (hRX:R≠X) (hXp:X≠p) (hRq:R≠q) (hXq:X≠q) (hC:Cur W p q B a 0) (hB:aK B) (hd:deep≤64) (hop:0≤op∧op≤5000000000)
  (hX:Blk W X (aX op 0 0 0 0 (.slice none 0 0) (.slice none 0 0) (.slice none 0 0) false) 153)
  (hbk:∀(W' :World) (m:Bool) (a' :Nat) (e' :Int),a≤a' ∨¬e' =0→Rp W' R p sat (deep+1:Nat)→Cur W' p q B a' e' →Calls Tryz.prog 133 #[.pointer (some ⟨R,0,none⟩), .bool m] W' (qd W' p q B (bk m a' e')))
  (hge:xW bk):
  Calls Tryz.prog 146 #[.pointer (some ⟨R,0,none⟩), .pointer (some ⟨X,0,none⟩)] W (Df W p q X R sat deep B (bE bk B op 1 a)):=by
 obtain ⟨r0,r1,r2,rf,rlt⟩:=hR.cells;have hplt:=hC.lt;have hXlt:=hX.lt;have H:=Lib.hid (wz W p q B a 0 hC hB);have HG1:=Lib.hid (uJ (B:=B) (a:=a) (e:=0));have HV:=Lib.hid (show bE bk B op 1 a=(let t:=az (ek B a) a 0;let r:=bk (op==4) t.2.1 t.2.2;if r.2.1=5 then let s:=bk false r.2.2.1 r.2.2.2;(.mk op t.1 0 0 0 [] r.1 s.1 true,s.2.2.1,s.2.2.2)else (.mk op t.1 0 0 0 [] r.1 [] false,r.2.2.1,r.2.2.2))from if_pos rfl);have hty:=sK B a 0;generalize az (ek B a) a 0=t at *;obtain ⟨ty,a1,e1⟩:=t;simp only at HV HG1 hty H;have HBK:=Lib.hid hbk;have HGE:=Lib.hid hge;have HR:=Lib.hid hR;have HX:=Lib.hid hX;have hdi:(deep:Int)≤64:=by omega
 clear hC hB hbk hge hR hX;go_enter Tryz.func146,Tryz.ntmps146;go_wp2_with fail;refine H.out.mono ?_;rintro E W1 ⟨rfl,hG⟩;have HRa:=Lib.hid (HR.out.goes hRp hG);have HXa:=Lib.hid (HX.out.grown hG.2 (by simpa using hXp));obtain ⟨s0,s1,s2,sf,slt⟩:=HRa.out.cells;have x0:W1.cell? ⟨X,0,none⟩=some (.int .i64 op):=by rw [HXa.out.cell];rfl
 have x1:W1.cell? ⟨X,1,none⟩=some (.int .u8 0):=by rw [HXa.out.cell];rfl
 have xf1:=HXa.out.frozen 1;have HG:=Lib.hid hG;clear hG H;go_wp2_with fail
 have XB:Blk ((W1.setCell ⟨X,1,none⟩ (.int .u8 ty)).setCell ⟨R,2,none⟩ (.int .i64 ((deep:Int)+1))) X (aX op ty 0 0 0 (.slice none 0 0) (.slice none 0 0) (.slice none 0 0) false) 153:=by
  have:=(HXa.out.set 1 (.int .u8 ty)).aJ ⟨R,2,none⟩ (.int .i64 ((deep:Int)+1)) (by simpa using hRX.symm);simpa [aX] using this
 have RB:Rp ((W1.setCell ⟨X,1,none⟩ (.int .u8 ty)).setCell ⟨R,2,none⟩ (.int .i64 ((deep:Int)+1))) R p sat (deep+1:Nat):=by
  have:=(HRa.out.other X hRX 1 (.int .u8 ty)).set ((deep:Int)+1);exact this
 have G3:j3 W ((W1.setCell ⟨X,1,none⟩ (.int .u8 ty)).setCell ⟨R,2,none⟩ (.int .i64 ((deep:Int)+1))) p q X R B a1 e1:=
  ((j3.of HG.out).set X (.inl rfl) hXp hXq 1 _).set R (.inr rfl) hRp hRq 2 _
 generalize (W1.setCell ⟨X,1,none⟩ (.int .u8 ty)).setCell ⟨R,2,none⟩ (.int .i64 ((deep:Int)+1))=Wb at *;have HBC:=Lib.hid (HBK.out Wb (op==4) a1 e1 (by by_cases h:e1=0;exact .inl (HG1.out h).1;exact .inr h) RB G3.cur);have HGE1:=Lib.hid (HGE.out (op==4) a1 e1);have HBK2:=Lib.hid (fun X' a' e' =>HBK.out X' false a' e');have HVV:=Lib.hid (fun a' e' =>HGE.out false a' e');generalize bk (op==4) a1 e1=r at *;obtain ⟨th,en,a2,e2⟩:=r;simp only at HV HGE1;have HXb:=Lib.hid XB;have HRb:=Lib.hid RB;have HG3:=Lib.hid G3;clear XB RB G3 HXa HRa s0 s1 s2 sf slt x0 x1 xf1 HBK;refine HBC.out.mono ?_;rintro E W2 ⟨⟨A6,c6,rfl,hl6,hF6⟩,hG2⟩;have hG2' :Goes Wb W2 p q B a2 e2:=hG2;have HX2:=Lib.hid (HXb.out.grown hG2'.2 (by simpa using hXp));have HR2:=Lib.hid (HRb.out.goes hRp hG2');have HG4:=Lib.hid (HG3.out.goes hG2');have HF6:=Lib.hid (hF6.mono (ok' :=fun k=>W.heap.size≤k) (fun k hk=>Nat.le_trans HG3.out.size hk));have x6:(W2.cell? ⟨X,6,none⟩)=some (.slice none 0 0):=by rw [HX2.out.cell];rfl
 have x8:(W2.cell? ⟨X,8,none⟩)=some (.bool false):=by rw [HX2.out.cell];rfl
 have xf6:=HX2.out.frozen 6;have xf7:=HX2.out.frozen 7;have xf8:=HX2.out.frozen 8;have hXlt2:=HX2.out.lt;obtain ⟨s0,s1,s2,sf,slt⟩:=HR2.out.cells;have hdc:(((deep+1:Nat):Nat):Int)=(deep:Int)+1:=by omega
 rw [hdc]at s2;clear hF6 hG2 hG2' HBC hdc;by_cases h5:en=5
 ·subst h5;rw [if_pos rfl]at HV;have hd2:(((deep+1:Nat):Nat):Int)=(deep:Int)+1:=by omega
  go_wp2_with fail
  have X3:Blk ((W2.setCell ⟨X,6,none⟩ (.slice A6 th.length c6)).setCell ⟨X,8,none⟩ (.bool true)) X (aX op ty 0 0 0 (.slice none 0 0) (.slice A6 th.length c6) (.slice none 0 0) true) 153:=by
   have:=(HX2.out.set 6 (.slice A6 th.length c6)).set 8 (.bool true);simpa [aX] using this
  have R3:Rp ((W2.setCell ⟨X,6,none⟩ (.slice A6 th.length c6)).setCell ⟨X,8,none⟩ (.bool true)) R p sat (deep+1:Nat):=(HR2.out.other X hRX 6 _).other X hRX 8 _;have G5:j3 W ((W2.setCell ⟨X,6,none⟩ (.slice A6 th.length c6)).setCell ⟨X,8,none⟩ (.bool true)) p q X R B a2 e2:=(HG4.out.set X (.inl rfl) hXp hXq 6 _).set X (.inl rfl) hXp hXq 8 _;have F3:FC kI ((W2.setCell ⟨X,6,none⟩ (.slice A6 th.length c6)).setCell ⟨X,8,none⟩ (.bool true)) (fun k=>W.heap.size≤k) A6 th:=FC.set (FC.set HF6.out X 6 _ (by omega)) X 8 _ (by omega);generalize (W2.setCell ⟨X,6,none⟩ (.slice A6 th.length c6)).setCell ⟨X,8,none⟩ (.bool true)=Wc at *
  have HBC:=Lib.hid (HBK2.out Wc a2 e2 (by
   by_cases h:e2=0
   ·have h1:=HGE1.out h;have h2:=HG1.out h1.2;exact .inl (by omega)
   ·exact .inr h) R3 G5.cur)
  generalize bk false a2 e2=r2 at *;obtain ⟨el,en2,a3,e3⟩:=r2;simp only at HV;have HX3:=Lib.hid X3;have HR3:=Lib.hid R3;have HG5:=Lib.hid G5;have HF3:=Lib.hid F3;clear X3 R3 G5 F3 s0 s1 s2 sf slt x6 x8 xf6 xf7 xf8;refine HBC.out.mono ?_;rintro E W3 ⟨⟨A7,c7,rfl,hl7,hF7⟩,hG3⟩;have hG3' :Goes Wc W3 p q B a3 e3:=hG3;have HX4:=Lib.hid (HX3.out.grown hG3'.2 (by simpa using hXp));have HR4:=Lib.hid (HR3.out.goes hRp hG3');have HG6:=Lib.hid (HG5.out.goes hG3');have HF7:=Lib.hid (hF7.mono (ok' :=fun k=>W.heap.size≤k) (fun k hk=>Nat.le_trans HG5.out.size hk));have HF4:=Lib.hid (FC.goes HF3.out hG3' (by omega));have x7:(W3.cell? ⟨X,7,none⟩)=some (.slice none 0 0):=by rw [HX4.out.cell];rfl
  have xf7:=HX4.out.frozen 7;have hXlt3:=HX4.out.lt;obtain ⟨s0,s1,s2,sf,slt⟩:=HR4.out.cells;rw [hd2]at s2;clear hF7 hG3 hG3' HBC hd2;go_wp2_with fail;go_end0
  have X5:Blk ((W3.setCell ⟨X,7,none⟩ (.slice A7 el.length c7)).setCell ⟨R,2,none⟩ (.int .i64 deep)) X (aX op ty 0 0 0 (.slice none 0 0) (.slice A6 th.length c6) (.slice A7 el.length c7) true) 153:=by
   have:=(HX4.out.set 7 (.slice A7 el.length c7)).aJ ⟨R,2,none⟩ (.int .i64 deep) (by simpa using hRX.symm);simpa [aX] using this
  have R5:Rp ((W3.setCell ⟨X,7,none⟩ (.slice A7 el.length c7)).setCell ⟨R,2,none⟩ (.int .i64 deep)) R p sat deep:=(HR4.out.other X hRX 7 _).set deep;have G7:=((HG6.out.set X (.inl rfl) hXp hXq 7 (.slice A7 el.length c7)).set R (.inr rfl) hRp hRq 2 (.int .i64 deep)).fin HR.out R5;rw [HV.out];refine ⟨rfl,⟨_, .mk op ty 0 0 0 [] th el true,X5, ?_,fun _=>rfl⟩,G7,R5⟩;exact il (x:= .mk op ty 0 0 0 [] th el true) (jq hop.1 hop.2) (p9 hty) rfl rfl rfl FC.nil (FC.set (FC.set HF4.out X 7 _ (by omega)) R 2 _ (by omega)) (FC.set (FC.set HF7.out X 7 _ (by omega)) R 2 _ (by omega)) (Nat.le_refl _) hl6 hl7
 ·have h5b:(en==5)=false:=by simpa using h5
  rw [if_neg h5]at HV;clear h5;go_wp2_with fail;go_end0
  have X5:Blk ((W2.setCell ⟨X,6,none⟩ (.slice A6 th.length c6)).setCell ⟨R,2,none⟩ (.int .i64 deep)) X (aX op ty 0 0 0 (.slice none 0 0) (.slice A6 th.length c6) (.slice none 0 0) false) 153:=by
   have:=(HX2.out.set 6 (.slice A6 th.length c6)).aJ ⟨R,2,none⟩ (.int .i64 deep) (by simpa using hRX.symm);simpa [aX] using this
  have R5:Rp ((W2.setCell ⟨X,6,none⟩ (.slice A6 th.length c6)).setCell ⟨R,2,none⟩ (.int .i64 deep)) R p sat deep:=(HR2.out.other X hRX 6 _).set deep;have G7:=((HG4.out.set X (.inl rfl) hXp hXq 6 (.slice A6 th.length c6)).set R (.inr rfl) hRp hRq 2 (.int .i64 deep)).fin HR.out R5;rw [HV.out];refine ⟨rfl,⟨_, .mk op ty 0 0 0 [] th [] false,X5, ?_,fun _=>rfl⟩,G7,R5⟩;exact il (x:= .mk op ty 0 0 0 [] th [] false) (jq hop.1 hop.2) (p9 hty) rfl rfl rfl FC.nil (FC.set (FC.set HF6.out X 6 _ (by omega)) R 2 _ (by omega)) FC.nil (Nat.le_refl _) hl6 (Nat.le_refl _)
def bO:Array Value:=aX 0 0 0 0 0 (.slice none 0 0) (.slice none 0 0) (.slice none 0 0) false
def nX (W:World) (p q:Nat) (B:List Int) (r:Ins×Nat×Int) (E:Ending) (w' :World):Prop:=
 ∃x' :Ins,∃AL AT AE cL cT cE,E= .returned (.agg (aX x'.op x'.ty x'.a x'.b x'.bits (.slice AL x'.list.length cL) (.slice AT x'.th.length cT) (.slice AE x'.el.length cE) x'.has))∧
  FK kI w' (fun k=>W.heap.size≤k) x' (aX x'.op x'.ty x'.a x'.b x'.bits (.slice AL x'.list.length cL) (.slice AT x'.th.length cT) (.slice AE x'.el.length cE) x'.has).toList∧(r.2.2=0→x' =r.1)∧Goes W w' p q B r.2.1 r.2.2
theorem aH {W:World} {X:Nat} {op ty a b bits:Int} {vL vT vE:Value} {has:Bool} (h:Blk W X (aX op ty a b bits vL vT vE has) 153):
  W.cell? ⟨X,0,none⟩=some (.int .i64 op)∧W.cell? ⟨X,1,none⟩=some (.int .u8 ty)∧W.cell? ⟨X,2,none⟩=some (.int .u32 a)∧W.cell? ⟨X,3,none⟩=some (.int .u32 b)∧W.cell? ⟨X,4,none⟩=some (.int .u64 bits)∧W.cell? ⟨X,5,none⟩=some vL∧W.cell? ⟨X,6,none⟩=some vT∧W.cell? ⟨X,7,none⟩=some vE∧W.cell? ⟨X,8,none⟩=some (.bool has):=
 ⟨by rw [h.cell];rfl,by rw [h.cell];rfl,by rw [h.cell];rfl,by rw [h.cell];rfl,by rw [h.cell];rfl,by rw [h.cell];rfl,by rw [h.cell];rfl,by rw [h.cell];rfl,by rw [h.cell];rfl⟩
theorem aA {W:World} {X:Nat} {cs:Array Value} {t:TypeId} (h:Blk W X cs t):
  W.frozen? ⟨X,0,none⟩=false∧W.frozen? ⟨X,1,none⟩=false∧W.frozen? ⟨X,2,none⟩=false∧W.frozen? ⟨X,3,none⟩=false∧W.frozen? ⟨X,4,none⟩=false∧W.frozen? ⟨X,5,none⟩=false∧W.frozen? ⟨X,6,none⟩=false∧W.frozen? ⟨X,7,none⟩=false∧W.frozen? ⟨X,8,none⟩=false∧X< W.heap.size:=
 ⟨h.frozen 0,h.frozen 1,h.frozen 2,h.frozen 3,h.frozen 4,h.frozen 5,h.frozen 6,h.frozen 7,h.frozen 8,h.lt⟩
theorem Goes.bG {W V:World} {p q:Nat} {B:List Int} {a a0:Nat} {e e0:Int} (hC:Cur W p q B a0 e0) (h:Goes W V p q B a e) (X:Nat) (hX:W.heap.size≤X) (j:Nat) (v:Value):Goes W (V.setCell ⟨X,j,none⟩ v) p q B a e:=
 ru hC h (bA V X j v) (fun k e=>by cases e;exact hX)
def bJ (V:World) (Z:Nat) (n0 n1 n2 n3 n4 n5 n6 n7 n8:Value):World:=(((((((((V.setCell ⟨Z,0,none⟩ n0).setCell ⟨Z,1,none⟩ n1).setCell ⟨Z,2,none⟩ n2).setCell ⟨Z,3,none⟩ n3).setCell ⟨Z,4,none⟩ n4).setCell ⟨Z,5,none⟩ n5).setCell ⟨Z,6,none⟩ n6).setCell ⟨Z,7,none⟩ n7).setCell ⟨Z,8,none⟩ n8)
theorem bL {V:World} {Z:Nat} {t:TypeId} {o0 o1 o2 o3 o4 o5 o6 o7 o8:Value} (h:Blk V Z #[o0,o1,o2,o3,o4,o5,o6,o7,o8] t) (n0 n1 n2 n3 n4 n5 n6 n7 n8:Value):Blk (bJ V Z n0 n1 n2 n3 n4 n5 n6 n7 n8) Z #[n0,n1,n2,n3,n4,n5,n6,n7,n8] t:=by
 have:=((((((((h.set 0 n0).set 1 n1).set 2 n2).set 3 n3).set 4 n4).set 5 n5).set 6 n6).set 7 n7).set 8 n8;simpa [bJ] using this
theorem dX {W V:World} {p q:Nat} {B:List Int} {a a0:Nat} {e e0:Int} (hC:Cur W p q B a0 e0) (h:Goes W V p q B a e) (Z:Nat) (hZ:W.heap.size≤Z) (n0 n1 n2 n3 n4 n5 n6 n7 n8:Value):Goes W (bJ V Z n0 n1 n2 n3 n4 n5 n6 n7 n8) p q B a e:=
 ((((((((h.bG hC Z hZ 0 n0).bG hC Z hZ 1 n1).bG hC Z hZ 2 n2).bG hC Z hZ 3 n3).bG hC Z hZ 4 n4).bG hC Z hZ 5 n5).bG hC Z hZ 6 n6).bG hC Z hZ 7 n7).bG hC Z hZ 8 n8
theorem jr {α:Type} {d:Kd α} {V:World} {ok:Nat→Prop} {A:Option Addr} {xs:List α} (h:FC d V ok A xs) (Z:Nat) (hZ:¬ok Z) (n0 n1 n2 n3 n4 n5 n6 n7 n8:Value):FC d (bJ V Z n0 n1 n2 n3 n4 n5 n6 n7 n8) ok A xs:=
 FC.set (FC.set (FC.set (FC.set (FC.set (FC.set (FC.set (FC.set (FC.set h Z 0 n0 hZ) Z 1 n1 hZ) Z 2 n2 hZ) Z 3 n3 hZ) Z 4 n4 hZ) Z 5 n5 hZ) Z 6 n6 hZ) Z 7 n7 hZ) Z 8 n8 hZ
theorem gU {W:World} {ok:Nat→Prop} {op ty a b bits:Int} (h1:0≤op∧op≤5000000000) (h2:0≤ty∧ty≤255) (h3:0≤a∧a≤4294967295) (h4:0≤b∧b≤4294967295) (h5:0≤bits∧bits< 18446744073709551616):
  FK kI W ok (.mk op ty a b bits [] [] [] false) (aX op ty a b bits (.slice none 0 0) (.slice none 0 0) (.slice none 0 0) false).toList:=
 il (x:= .mk op ty a b bits [] [] [] false) (jq h1.1 h1.2) (show (Lit.int .u8 ty).wf=true from by simp [Lit.wf,IntKind.min,IntKind.max,IntKind.signed,IntKind.bits];omega) (show (Lit.int .u32 a).wf=true from by simp [Lit.wf,IntKind.min,IntKind.max,IntKind.signed,IntKind.bits];omega) (show (Lit.int .u32 b).wf=true from by simp [Lit.wf,IntKind.min,IntKind.max,IntKind.signed,IntKind.bits];omega) (show (Lit.int .u64 bits).wf=true from by simp [Lit.wf,IntKind.min,IntKind.max,IntKind.signed,IntKind.bits];omega) FC.nil FC.nil FC.nil (Nat.le_refl _) (Nat.le_refl _) (Nat.le_refl _)
theorem tL (B:List Int) (a:Nat) (e:Int):0≤(az (fu B a) a e).1∧(az (fu B a) a e).1≤4294967295:=by
 unfold az;by_cases he:e=0
 ·rw [if_pos he];unfold fu
  cases di B a 32 with
  |error e' =>simp [dm]
  |ok y=>obtain ⟨n,nx⟩:=y;simp only [dm];omega
 ·rw [if_neg he];simp
theorem sH (B:List Int) (a:Nat) (e:Int) (hB:aK B):0≤(az (fC B a) a e).1∧(az (fC B a) a e).1< 18446744073709551616:=by
 unfold az;by_cases he:e=0
 ·rw [if_pos he];unfold fC
  cases hs:di B a 64 with
  |error e' =>simp [dm]
  |ok y=>obtain ⟨n,nx⟩:=y;have:=BQ hB (by omega) hs;simp only [dm];omega
 ·rw [if_neg he];simp
theorem mJ (B:List Int) (a n:Nat) (e:Int) (hn:n≤8) (hB:aK B):0≤(az (dN B a n) a e).1∧(az (dN B a n) a e).1< 18446744073709551616:=by
 unfold az;by_cases he:e=0
 ·rw [if_pos he];unfold dN;by_cases h:a+n≤B.length
  ·rw [if_pos h];have h1:=uD ((B.drop a).take n) (fun x hx=>hB.2 x (List.mem_of_mem_drop (List.mem_of_mem_take hx)));have h2:2 ^(8 * ((B.drop a).take n).length)≤2 ^ 64:=Nat.pow_le_pow_right (by omega) (by simp;omega);simp only [dm];omega
  ·rw [if_neg h];simp [dm]
 ·rw [if_neg he];simp
theorem jS.goes {W V V' :World} {p q X a a' :Nat} {B:List Int} {e e' :Int} (h:Goes W V p q B a e) (h' :jS V V' p q X B a' e') (hX:W.heap.size≤X):Goes W V' p q B a' e' :=by
 obtain ⟨g0,g1,g2,g3,g4,g5⟩:=h';refine ⟨g0,⟨g1.trans h.2.os,g2.trans h.2.tape,g3.trans h.2.output,Nat.le_trans h.2.size g4,fun k hk hp=> ?_⟩⟩;exact (g5 k (Nat.lt_of_lt_of_le hk h.2.size) (by simpa using hp) (by omega)).trans (h.2.block k hk hp)
theorem fq (W:World) (p q:Nat) (B:List Int) (a bits:Nat) (e:Int) (hC:Rdr W p q B a e) (hB:aK B) (hb1:1≤bits) (hb2:bits≤64):
  Calls Tryz.prog 38 #[.pointer (some ⟨p,0,none⟩), .int .i64 bits] W fun E w' =>E= .returned (.int .u64 (az (bQ B a bits) a e).1)∧aF W w' p q B (az (bQ B a bits) a e).2.1 (az (bQ B a bits) a e).2.2:=by
 have HC:=Lib.hid hC;obtain ⟨A,c,c0,c1,c2,f0,f1,f2,hle,hq,hlt,ha⟩:=hC.cells;by_cases he:e=0
 ·subst he;have H:=Lib.hid (fun X (h:ByQ X q A B)=>Ba q A c B hB hle bits a X hb1 hb2 ha h);have HQ:=Lib.hid hq
  cases hu:bQ B a bits with
  |error e' =>
   have he:=mD hu;have he2:(e' !=0)=true:=by simp only [bne,he];rfl
   rw [hu]at H;have H2:=Lib.hid (fun X h=>(H.out X h).mono (R' :=fun E w' =>E= .returned (.tuple #[.int .u64 0, .int .i64 0, .int .i64 e'])∧w' =X) (by rintro E w' ⟨rfl,rfl⟩;exact ⟨rfl,rfl⟩));clear H;clear hC hB hq hu he;go_enter Tryz.func38,Tryz.ntmps38;go_wp2_with fail;go_quiet ((go_at_call 66;exact Calls.quiet_of_same (H2.out _ (HQ.out.grown (row:=none) ⟨rfl,rfl,rfl,Nat.le_refl _,fun _ _ _=>rfl⟩ (by simp)))));go_wp2_with fail;go_ret;exact ⟨rfl,aF.trans (aF.drewN HC.out _) ⟨(aF.drewN HC.out _).1.AA e',bA _ _ _ _⟩⟩
  |ok y=>
   obtain ⟨n,nx⟩:=y;have hnx:=(qG hu).2;rw [hu]at H;have H2:=Lib.hid (fun X h=>(H.out X h).mono (R' :=fun E w' =>E= .returned (.tuple #[.int .u64 n, .int .i64 nx, .int .i64 0])∧w' =X) (by rintro E w' ⟨rfl,rfl⟩;exact ⟨rfl,rfl⟩));clear H;clear hC hB hq hu;go_enter Tryz.func38,Tryz.ntmps38;go_wp2_with fail;go_quiet ((go_at_call 66;exact Calls.quiet_of_same (H2.out _ (HQ.out.grown (row:=none) ⟨rfl,rfl,rfl,Nat.le_refl _,fun _ _ _=>rfl⟩ (by simp)))));go_wp2_with fail;go_ret;exact ⟨rfl,aF.trans (aF.drewN HC.out _) ⟨(aF.drewN HC.out _).1.setAt nx hnx,bA _ _ _ _⟩⟩
 ·have he2:(e !=0)=true:=by simp;exact he
  have HV:=Lib.hid (show az (bQ B a bits) a e=(0,a,e)from by simp [az,he]);clear hC hB hq he;go_enter Tryz.func38,Tryz.ntmps38;go_wp2_with fail;go_ret;rw [HV.out];exact ⟨rfl,aF.same HC.out⟩
theorem Bp (W:World) (p q:Nat) (B:List Int) (a:Nat) (e:Int) (hC:Rdr W p q B a e) (hB:aK B):
  Calls Tryz.prog 129 #[.pointer (some ⟨p,0,none⟩), .int .i64 32] W fun E w' =>E= .returned (.int .u64 (az (fu B a) a e).1)∧aF W w' p q B (az (fu B a) a e).2.1 (az (fu B a) a e).2.2:=by
 have HC:=Lib.hid hC;obtain ⟨A,c,c0,c1,c2,f0,f1,f2,hle,hq,hlt,ha⟩:=hC.cells;by_cases he:e=0
 ·subst he;have H:=Lib.hid (fun X (h:ByQ X q A B)=>sJ q A c B hB hle 32 a X (by omega) (by omega) ha h);have HQ:=Lib.hid hq
  cases hu:di B a 32 with
  |error e' =>
   have he:=iH hu;have he2:(e' !=0)=true:=by simp only [bne,he];rfl
   rw [hu]at H;have H2:=Lib.hid (fun X h=>(H.out X h).mono (R' :=fun E w' =>E= .returned (.tuple #[.int .u64 0, .int .i64 0, .int .i64 e'])∧w' =X) (by rintro E w' ⟨rfl,rfl⟩;exact ⟨rfl,rfl⟩));clear H;rw [show fu B a= .error e' from by unfold fu;rw [hu]];clear hC hB hq hu he;go_enter Tryz.func129,Tryz.ntmps129;go_wp2_with fail;go_quiet ((go_at_call 138;exact Calls.quiet_of_same (H2.out _ (HQ.out.grown (row:=none) ⟨rfl,rfl,rfl,Nat.le_refl _,fun _ _ _=>rfl⟩ (by simp)))));go_wp2_with fail;go_ret;exact ⟨rfl,aF.trans (aF.drewN HC.out _) ⟨(aF.drewN HC.out _).1.AA e',bA _ _ _ _⟩⟩
  |ok y=>
   obtain ⟨n,nx⟩:=y;have hnx:=(ku hu).2;rw [hu]at H;have H2:=Lib.hid (fun X h=>(H.out X h).mono (R' :=fun E w' =>E= .returned (.tuple #[.int .u64 n, .int .i64 nx, .int .i64 0])∧w' =X) (by rintro E w' ⟨rfl,rfl⟩;exact ⟨rfl,rfl⟩));clear H;rw [show fu B a= .ok (n % 4294967296,nx)from by unfold fu;rw [hu]];clear hC hB hq hu;go_enter Tryz.func129,Tryz.ntmps129;go_wp2_with fail;go_quiet ((go_at_call 138;exact Calls.quiet_of_same (H2.out _ (HQ.out.grown (row:=none) ⟨rfl,rfl,rfl,Nat.le_refl _,fun _ _ _=>rfl⟩ (by simp)))));go_wp2_with fail;go_ret;exact ⟨rfl,aF.trans (aF.drewN HC.out _) ⟨(aF.drewN HC.out _).1.setAt nx hnx,bA _ _ _ _⟩⟩
 ·have he2:(e !=0)=true:=by simp;exact he
  have HV:=Lib.hid (show az (fu B a) a e=(0,a,e)from by simp [az,he]);clear hC hB hq he;go_enter Tryz.func129,Tryz.ntmps129;go_wp2_with fail;go_ret;rw [HV.out];exact ⟨rfl,aF.same HC.out⟩
theorem zI (W:World) (p q:Nat) (B:List Int) (a:Nat) (e:Int) (hC:Rdr W p q B a e) (hB:aK B):
  Calls Tryz.prog 129 #[.pointer (some ⟨p,0,none⟩), .int .i64 64] W fun E w' =>E= .returned (.int .u64 (az (fC B a) a e).1)∧aF W w' p q B (az (fC B a) a e).2.1 (az (fC B a) a e).2.2:=by
 have HC:=Lib.hid hC;obtain ⟨A,c,c0,c1,c2,f0,f1,f2,hle,hq,hlt,ha⟩:=hC.cells;by_cases he:e=0
 ·subst he;have H:=Lib.hid (fun X (h:ByQ X q A B)=>sJ q A c B hB hle 64 a X (by omega) (by omega) ha h);have HQ:=Lib.hid hq
  cases hu:di B a 64 with
  |error e' =>
   have he:=iH hu;have he2:(e' !=0)=true:=by simp only [bne,he];rfl
   rw [hu]at H;have H2:=Lib.hid (fun X h=>(H.out X h).mono (R' :=fun E w' =>E= .returned (.tuple #[.int .u64 0, .int .i64 0, .int .i64 e'])∧w' =X) (by rintro E w' ⟨rfl,rfl⟩;exact ⟨rfl,rfl⟩));clear H;rw [show fC B a= .error e' from by unfold fC;rw [hu]];clear hC hB hq hu he;go_enter Tryz.func129,Tryz.ntmps129;go_wp2_with fail;go_quiet ((go_at_call 138;exact Calls.quiet_of_same (H2.out _ (HQ.out.grown (row:=none) ⟨rfl,rfl,rfl,Nat.le_refl _,fun _ _ _=>rfl⟩ (by simp)))));go_wp2_with fail;go_ret;exact ⟨rfl,aF.trans (aF.drewN HC.out _) ⟨(aF.drewN HC.out _).1.AA e',bA _ _ _ _⟩⟩
  |ok y=>
   obtain ⟨n,nx⟩:=y;have hnx:=(ku hu).2;rw [hu]at H;have H2:=Lib.hid (fun X h=>(H.out X h).mono (R' :=fun E w' =>E= .returned (.tuple #[.int .u64 n, .int .i64 nx, .int .i64 0])∧w' =X) (by rintro E w' ⟨rfl,rfl⟩;exact ⟨rfl,rfl⟩));clear H;rw [show fC B a= .ok (n,nx)from by unfold fC;rw [hu]];clear hC hB hq hu;go_enter Tryz.func129,Tryz.ntmps129;go_wp2_with fail;go_quiet ((go_at_call 138;exact Calls.quiet_of_same (H2.out _ (HQ.out.grown (row:=none) ⟨rfl,rfl,rfl,Nat.le_refl _,fun _ _ _=>rfl⟩ (by simp)))));go_wp2_with fail;go_ret;exact ⟨rfl,aF.trans (aF.drewN HC.out _) ⟨(aF.drewN HC.out _).1.setAt nx hnx,bA _ _ _ _⟩⟩
 ·have he2:(e !=0)=true:=by simp;exact he
  have HV:=Lib.hid (show az (fC B a) a e=(0,a,e)from by simp [az,he]);clear hC hB hq he;go_enter Tryz.func129,Tryz.ntmps129;go_wp2_with fail;go_ret;rw [HV.out];exact ⟨rfl,aF.same HC.out⟩
theorem dM (W:World) (p q:Nat) (B:List Int) (a:Nat) (e:Int) (hC:Rdr W p q B a e) (hB:aK B):
  Calls Tryz.prog 37 #[.pointer (some ⟨p,0,none⟩)] W fun E w' =>E= .returned (.int .i64 (az (aG B a) a e).1)∧aF W w' p q B (az (aG B a) a e).2.1 (az (aG B a) a e).2.2:=by
 have HC:=Lib.hid hC;obtain ⟨A,c,c0,c1,c2,f0,f1,f2,hle,hq,hlt,ha⟩:=hC.cells;have H:=Lib.hid (fq W p q B a 32 e hC hB (by omega) (by omega));by_cases he:e=0
 ·subst he;rw [show bQ B a 32=aI B a from rfl]at H
  cases hu:aI B a with
  |error e' =>
   have he:=qg B a e' hu;have he2:(e' !=0)=true:=by simp only [bne,he];rfl
   have HE:=Lib.hid (show ¬e' =0 from by simpa using he);have HV:=Lib.hid (show aG B a= .error e' from by unfold aG;rw [hu]);rw [hu]at H;clear hC hB hq hu he;go_enter Tryz.func37,Tryz.ntmps37;go_wp2_with fail;refine H.out.mono ?_;rintro E W1 ⟨rfl,hG⟩;have hG' :aF W W1 p q B a e' :=hG;obtain ⟨A1,k,d0,d1,d2,l0,l1,l2,gle,gq,glt,ga⟩:=hG'.1.cells;have HG:=Lib.hid hG';clear hG hG' gq H;simp only [az,dm,if_pos];go_wp2_with fail;refine (dV _ _ _ _ _ a _ HG.out.1 ha).mono ?_;rintro E W2 ⟨rfl,hG2⟩;rw [if_neg HE.out]at hG2;have HG2:=Lib.hid hG2;clear hG2;go_wp2_with fail;go_ret;rw [HV.out];exact ⟨rfl,HG.out.trans HG2.out⟩
  |ok y=>
   obtain ⟨n,nx⟩:=y;have hlt:=jO hB hu;have hn:=hlt.1;rw [hu]at H;by_cases hbig:n >4096
   ·have HV:=Lib.hid (show aG B a= .error 3 from by unfold aG;rw [hu];exact if_pos hbig);have hbig2:(4096:Int)<(n:Int):=by omega
    clear hC hB hq hu hbig hlt;go_enter Tryz.func37,Tryz.ntmps37;go_wp2_with fail;refine H.out.mono ?_;rintro E W1 ⟨rfl,hG⟩;have hG' :aF W W1 p q B nx 0:=hG;have HG:=Lib.hid hG';clear hG hG' H;simp only [az,dm,if_pos];go_wp2_with fail;refine (dx _ _ _ _ _ _ 3 HG.out.1).mono ?_;rintro E W2 ⟨rfl,hG2⟩;have hG2' :aF W1 W2 p q B nx 3:=hG2;obtain ⟨A1,k,d0,d1,d2,l0,l1,l2,gle,gq,glt,ga⟩:=hG2'.1.cells;have HG2:=Lib.hid hG2';clear hG2 hG2' gq;go_wp2_with fail;refine (dV _ _ _ _ _ a _ HG2.out.1 ha).mono ?_;rintro E W3 ⟨rfl,hG3⟩;have hG3' :aF W2 W3 p q B a 3:=hG3;have HG3:=Lib.hid hG3';clear hG3 hG3';go_wp2_with fail;go_ret;rw [HV.out];exact ⟨rfl,(HG.out.trans HG2.out).trans HG3.out⟩
   ·have HV:=Lib.hid (show aG B a= .ok (n,nx)from by unfold aG;rw [hu];exact if_neg hbig);have hbig2:(n:Int)≤4096:=by omega
    clear hC hB hq hu hbig hlt;go_enter Tryz.func37,Tryz.ntmps37;go_wp2_with fail;refine H.out.mono ?_;rintro E W1 ⟨rfl,hG⟩;have hG' :aF W W1 p q B nx 0:=hG;obtain ⟨A1,k,d0,d1,d2,l0,l1,l2,gle,gq,glt,ga⟩:=hG'.1.cells;have HG:=Lib.hid hG';clear hG hG' H gq;simp only [az,dm,if_pos];go_wp2_with fail;go_ret;rw [HV.out];exact ⟨rfl,HG.out⟩
 ·have he2:(e !=0)=true:=by simp;exact he
  have HV:=Lib.hid (show az (aG B a) a e=(0,a,e)from by simp [az,he]);have HV2:=Lib.hid (show az (bQ B a 32) a e=(0,a,e)from by simp [az,he]);have HE:=Lib.hid he;rw [HV2.out]at H;clear hC hB hq he;go_enter Tryz.func37,Tryz.ntmps37;go_wp2_with fail;refine H.out.mono ?_;rintro E W1 ⟨rfl,hG⟩;have hG' :aF W W1 p q B a e:=hG;obtain ⟨A1,k,d0,d1,d2,l0,l1,l2,gle,gq,glt,ga⟩:=hG'.1.cells;have HG:=Lib.hid hG';clear hG hG' H gq;go_wp2_with fail;refine (dV _ _ _ _ _ a _ HG.out.1 ha).mono ?_;rintro E W2 ⟨rfl,hG2⟩;rw [if_neg HE.out]at hG2;have HG2:=Lib.hid hG2;clear hG2;go_wp2_with fail;go_ret;rw [HV.out];exact ⟨rfl,HG.out.trans HG2.out⟩
theorem iI (W:World) (p q ql:Nat) (B:List Int) (a:Nat) (e e0:Int) (AL:Option Addr) (cL:Nat) (L:List Int) (hC:Rdr W p q B a e) (hB:aK B) (h0:(e0==0)=false) (hqp:ql≠p) (hL:ByQ W ql AL L) (hLl:L.length≤100):
  Calls Tryz.prog 67 #[.pointer (some ⟨p,0,none⟩), .slice AL L.length cL, .int .i64 e0] W fun E w' =>E= .returned (.int .u8 (az (aV B a L e0) a e).1)∧aF W w' p q B (az (aV B a L e0) a e).2.1 (az (aV B a L e0) a e).2.2:=by
 obtain ⟨A,c,c0,c1,c2,f0,f1,f2,hle,hq,hlt,ha⟩:=hC.cells;have H:=Lib.hid (fK W p q B a e hC hB);obtain ⟨b,hb⟩:∃b,b=(aQ B a e).1:=⟨_,rfl⟩;obtain ⟨a1,ha1⟩:∃a1,a1=(aQ B a e).2.1:=⟨_,rfl⟩;obtain ⟨e1,he1⟩:∃e1,e1=(aQ B a e).2.2:=⟨_,rfl⟩;rw [←hb,←ha1,←he1]at H
 have hcase:(e1=0∧e=0∧(aV B a L e0=if b∈L then .ok (b.toNat,a+1)else .error e0)∧a1=a+1∧0≤b)∨(¬e1=0∧a1=a∧az (aV B a L e0) a e=(0,a,e1)):=by
  unfold aQ at hb ha1 he1;by_cases he:e=0
  ·subst he;unfold aV
   cases hx:B[a]? with
   |none=>rw [hx]at he1 ha1;simp at he1 ha1;exact .inr ⟨by rw [he1];decide,ha1,by rw [he1];rfl⟩
   |some x=>
    rw [hx]at hb ha1 he1;simp at hb ha1 he1;subst hb;exact .inl ⟨he1,rfl,rfl,ha1,(hB.get hx).1⟩
  ·rw [if_neg he]at hb ha1 he1;exact .inr ⟨by rw [he1];exact he,ha1,by rw [az,if_neg he,he1]⟩
 have HC:=Lib.hid hcase;have H0:=Lib.hid h0;clear hb ha1 he1 hC hB hcase h0 hq;go_enter Tryz.func67,Tryz.ntmps67;go_wp2_with fail;refine H.out.mono ?_;rintro E W1 ⟨rfl,hG⟩;have HL1:=Lib.hid (hL.grown hG.2 (by simpa using hqp));obtain ⟨A1,k,d0,d1,d2,l0,l1,l2,gle,gq,glt,ga⟩:=hG.1.cells;have HG:=Lib.hid hG;clear hG H gq hL c0 c1 c2 f0 f1 f2;go_wp2_with fail;rcases HC.out with ⟨rfl,rfl,h1,rfl,h3⟩|⟨h1,rfl,h2⟩
 ·have HH1:=Lib.hid h1;clear HC h1;go_loop [9] (fun k=>∃j:Nat,j≤L.length∧k= .int .i64 j∧Hid (∀y∈L.take j,¬y=b)) (fun k=>L.length - (intOf k).toNat)
  case atStart=>exact ⟨0,Nat.zero_le _,rfl,by intro y hy;simp at hy⟩
  case round=>
   obtain ⟨j,hj,rfl,hno⟩:=hrel;by_cases hlt:j< L.length
   ·obtain ⟨o,x,rfl,hx,hc⟩:=HL1.out.at_ j hlt;by_cases hxb:x=b
    ·have hxb2:(x==b)=true:=by simpa using hxb
     have HM:=Lib.hid (show b∈L from by rw [←hxb];exact List.mem_of_getElem? hx.out);clear hxb;go_wp2_with fail;go_ret;rw [HH1.out,if_pos HM.out];exact ⟨by show _=Ending.returned (Value.int .u8 ((b.toNat:Nat):Int));rw [Int.toNat_of_nonneg h3];rfl,HG.out⟩
    ·have hxb2:(x==b)=false:=by simpa using hxb
     have HN:=Lib.hid (jU hno.out hx.out hxb);clear hxb;go_wp2_with fail;go_round
     case rel=>exact ⟨j+1,by omega,by go_num,HN⟩
     case measure=>simp [intOf];omega
   ·obtain rfl:j=L.length:=by omega
    have HNO:=Lib.hid (show ¬b∈L from fun h=>by have:=hno.out b;rw [List.take_length]at this;exact this h rfl);go_wp2_with fail;refine (dx _ _ _ _ _ _ e0 HG.out.1).mono ?_;rintro E W2 ⟨rfl,hG2⟩;rw [cz,if_pos rfl]at hG2;have HG2:=Lib.hid hG2;clear hG2;go_wp2_with fail;refine (dV _ _ _ _ _ a _ HG2.out.1 ha).mono ?_;rintro E W3 ⟨rfl,hG3⟩;have hne:=H0.out;rw [if_neg (by simpa using hne)]at hG3;have HG3:=Lib.hid hG3;clear hG3 hne;go_wp2_with fail;go_ret;rw [HH1.out,if_neg HNO.out];exact ⟨rfl,(HG.out.trans HG2.out).trans HG3.out⟩
 ·have HH2:=Lib.hid h2;have HE1:=Lib.hid h1;have he1:(e1==0)=false:=by simpa using h1
  clear HC h2 h1;go_loop [9] (fun k=>∃j:Nat,j≤L.length∧k= .int .i64 j) (fun k=>L.length - (intOf k).toNat)
  case atStart=>exact ⟨0,Nat.zero_le _,rfl⟩
  case round=>
   obtain ⟨j,hj,rfl⟩:=hrel;by_cases hlt:j< L.length
   ·obtain ⟨o,x,rfl,hx,hc⟩:=HL1.out.at_ j hlt;by_cases hxb:x=b
    all_goals
     first|(have hxb2:(x==b)=true:=by simpa using hxb)|(have hxb2:(x==b)=false:=by simpa using hxb)
     clear hxb;go_wp2_with fail;go_round
     case rel=>exact ⟨j+1,by omega,by go_num⟩
     case measure=>simp [intOf];omega
   ·obtain rfl:j=L.length:=by omega
    go_wp2_with fail;refine (dx _ _ _ _ _ _ e0 HG.out.1).mono ?_;rintro E W2 ⟨rfl,hG2⟩;rw [cz,if_neg HE1.out]at hG2;have HG2:=Lib.hid hG2;clear hG2;go_wp2_with fail;refine (dV _ _ _ _ _ a1 _ HG2.out.1 ha).mono ?_;rintro E W3 ⟨rfl,hG3⟩;rw [if_neg HE1.out]at hG3;have HG3:=Lib.hid hG3;clear hG3;go_wp2_with fail;go_ret;rw [HH2.out];exact ⟨rfl,(HG.out.trans HG2.out).trans HG3.out⟩
theorem aF.aW {W W' :World} {p q:Nat} {B:List Int} {a:Nat} {e:Int} {o:Obj} (h:aF (W.alloc o) W' p q B a e):aF W W' p q B a e:=⟨h.1,(World.grownBy_alloc W o _).trans h.2⟩
theorem Gu (B:List Int) (a:Nat) (e:Int):(az (ek B a) a e)=(if (az (aV B a [127,126,125,124,64] 106) a e).1=64 then 0 else (az (aV B a [127,126,125,124,64] 106) a e).1,(az (aV B a [127,126,125,124,64] 106) a e).2):=by
 unfold ek az;rcases aV B a [127,126,125,124,64] 106 with e' |⟨n,nx⟩
 ·by_cases h:e=0<;>simp [h,dm,gm,eP]
 ·by_cases h:e=0
  ·by_cases h2:n=64
   ·simp [h,h2,dm,gm,eP]
   ·have h3:¬(n:Int)=64:=by omega
    simp [h,h2,h3,dm,gm,eP]
  ·simp [h]
theorem uA (W:World) (p q:Nat) (B:List Int) (a:Nat) (e:Int) (hC:Rdr W p q B a e) (hB:aK B):
  Calls Tryz.prog 127 #[.pointer (some ⟨p,0,none⟩)] W fun E w' =>E= .returned (.int .u8 (az (ek B a) a e).1)∧aF W w' p q B (az (ek B a) a e).2.1 (az (ek B a) a e).2.2:=by
 have hplt:=hC.lt;have H:=Lib.hid (iI _ p q W.heap.size B a e 106 (some ⟨W.heap.size,0,none⟩) 5 [127,126,125,124,64] (hC.alloc (.cells (([127,126,125,124,64]:List Int).map (Value.int .u8)).toArray 5)) hB rfl (by omega) (fM W [127,126,125,124,64] 5) (by decide));have HV:=Lib.hid (Gu B a e);generalize az (aV B a [127,126,125,124,64] 106) a e=t at *;obtain ⟨v,a',e'⟩:=t;clear hC hB;by_cases h64:v=64
 ·subst h64;rw [if_pos rfl]at HV;go_enter Tryz.func127,Tryz.ntmps127;go_wp2_with fail;refine H.out.mono ?_;rintro E W1 ⟨rfl,hG⟩;have HG:=Lib.hid hG;clear hG H;go_wp2_with fail;go_ret;rw [HV.out];exact ⟨rfl,HG.out.aW⟩
 ·rw [if_neg h64]at HV;have hv2:(v==64)=false:=by simpa using h64
  clear h64;go_enter Tryz.func127,Tryz.ntmps127;go_wp2_with fail;refine H.out.mono ?_;rintro E W1 ⟨rfl,hG⟩;have HG:=Lib.hid hG;clear hG H;go_wp2_with fail;go_ret;rw [HV.out];exact ⟨rfl,HG.out.aW⟩
def jP (j:Nat):Int:=(((2 ^(8 * j)) % 18446744073709551616:Nat):Int)
theorem qR (j:Nat):IntKind.u64.wrap (256 * jP j)=jP (j+1):=by
 unfold jP;rw [IntKind.wrap_u64,show 8 * (j+1)=8 * j+8 from by omega,Nat.pow_add,show (2:Nat) ^ 8=256 from rfl];generalize 2 ^(8 * j)=t;omega
theorem vQ (j:Nat) (h:j≤7):jP j=((2 ^(8 * j):Nat):Int):=by
 unfold jP;have:2 ^(8 * j)≤2 ^ 56:=Nat.pow_le_pow_right (by omega) (by omega);rw [Nat.mod_eq_of_lt (by omega)]
def ug (W wr:World) (p q:Nat) (B:List Int) (a n:Nat) (e:Int) (j:Nat) (v:Int):Prop:=
 (e=0∧a+j≤B.length∧aF W wr p q B (a+j) 0∧v=leN ((B.drop a).take j))∨(∃a' e',aF W wr p q B a' e' ∧¬e' =0∧az (dN B a n) a e=(0,a,e'))
theorem ug.step {W wr:World} {p q:Nat} {B:List Int} {a n:Nat} {e:Int} {j:Nat} {v:Int} (hB:aK B) (hj:j< n) (hn:n≤8) (h:ug W wr p q B a n e j v):
  ∃a' e',Rdr wr p q B a' e' ∧0≤(aQ B a' e').1∧(aQ B a' e').1≤255∧(∀W2,aF wr W2 p q B (aQ B a' e').2.1 (aQ B a' e').2.2→ug W W2 p q B a n e (j+1) (IntKind.u64.wrap (v+IntKind.u64.wrap ((aQ B a' e').1 * jP j)))):=by
 rcases h with ⟨rfl,h1,h2,rfl⟩|⟨a',e',h1,h2,h3⟩
 ·refine ⟨a+j,0,h2.1, ?_⟩;rcases Nat.lt_or_ge (a+j) B.length with hlt|hge
  ·have hx:B[a+j]? =some B[a+j]:=List.getElem?_eq_getElem hlt;have hxb:=hB.get hx;generalize B[a+j]=x at *;have hr:aQ B (a+j) 0=(x,a+j+1,0):=by simp [aQ,hx]
   rw [hr];refine ⟨hxb.1,hxb.2,fun W2 hG=> .inl ⟨rfl,by omega,h2.trans hG, ?_⟩⟩;have hs:=wZ ((B.drop a).take j) x;rw [List.length_take,List.length_drop,Nat.min_eq_left (by omega)]at hs;have ht:(B.drop a).take (j+1)=(B.drop a).take j++ [x]:=by rw [List.take_add_one,List.getElem?_drop,hx];rfl
   have hb2:=uD ((B.drop a).take j) (fun y hy=>hB.2 y (List.mem_of_mem_drop (List.mem_of_mem_take hy)));rw [List.length_take,List.length_drop,Nat.min_eq_left (by omega)]at hb2;rw [ht,hs,vQ j (by omega)];have hp:2 ^(8 * j)≤2 ^ 56:=Nat.pow_le_pow_right (by omega) (by omega);have hm:x.toNat * 2 ^(8 * j)≤255 * 2 ^(8 * j):=Nat.mul_le_mul_right _ (by omega);have e1:x * ((2 ^(8 * j):Nat):Int)=((x.toNat * 2 ^(8 * j):Nat):Int):=by rw [Int.natCast_mul,Int.toNat_of_nonneg hxb.1]
   rw [e1,IntKind.wrap_u64,IntKind.wrap_u64];generalize x.toNat * 2 ^(8 * j)=y at *;generalize leN ((B.drop a).take j)=l at *;generalize 2 ^(8 * j)=t at *;omega
  ·have hr:aQ B (a+j) 0=(0,a+j,100):=by simp [aQ,List.getElem?_eq_none hge]
   rw [hr];refine ⟨by simp,by simp,fun W2 hG=> .inr ⟨a+j,100,h2.trans hG,by decide, ?_⟩⟩;have:dN B a n= .error 100:=if_neg (by omega);rw [this];rfl
 ·refine ⟨a',e',h1.1, ?_⟩;have hr:aQ B a' e' =(0,a',e'):=by simp [aQ,h2]
  rw [hr];exact ⟨by simp,by simp,fun W2 hG=> .inr ⟨a',e',h1.trans hG,h2,h3⟩⟩
theorem D7 (W:World) (p q:Nat) (B:List Int) (a:Nat) (e:Int) (hC:Rdr W p q B a e) (hB:aK B):
  Calls Tryz.prog 130 #[.pointer (some ⟨p,0,none⟩), .int .i64 4] W fun E w' =>E= .returned (.int .u64 (az (dN B a 4) a e).1)∧aF W w' p q B (az (dN B a 4) a e).2.1 (az (dN B a 4) a e).2.2:=by
 obtain ⟨A,c,c0,c1,c2,f0,f1,f2,hle,hq,hlt,ha⟩:=hC.cells;have hl:=hB.1;have HB:=Lib.hid hB
 have H0:=Lib.hid (show ug W W p q B a 4 e 0 0 from by
  by_cases he:e=0
  ·subst he;exact .inl ⟨rfl,by omega,aF.same hC,by simp [leN]⟩
  ·exact .inr ⟨a,e,aF.same hC,he,by simp [az,he]⟩)
 clear hC hB hq;go_enter Tryz.func130,Tryz.ntmps130;go_wp2_with fail;clear c0 c1 c2 f0 f1 f2;go_loopw [6,7,8] (fun x u k wr=>∃(j:Nat) (v:Int),Hid (j≤4)∧k= .int .i64 j∧x= .int .u64 v∧u= .int .u64 (jP j)∧Hid (ug W wr p q B a 4 e j v)) (fun _ _ k _=>4 - (intOf k).toNat)
 case atStart=>exact ⟨0,0,by simp [Hid],rfl,rfl,rfl,H0⟩
 case round=>
  obtain ⟨j,v,hjn,rfl,rfl,rfl,hF⟩:=hrel;have hj8:(j:Int)≤4:=by have:=hjn.out;omega
  by_cases hlt:j< 4
  ·have hlt2:(j:Int)< 4:=by omega
   obtain ⟨a',e',hR,hb0,hb1,hst⟩:=ug.step HB.out hlt (by omega) hF.out;have H:=Lib.hid (fK wr p q B a' e' hR HB.out);have HS:=Lib.hid hst;have HU:=Lib.hid (qR j);generalize aQ B a' e' =t at *;obtain ⟨b,a2,e2⟩:=t;generalize hun:jP j=un at *;simp only at hb0 hb1 H;clear hR hst hun;go_wp2_with fail;refine H.out.mono ?_;rintro E W2 ⟨rfl,hG⟩;have HF:=Lib.hid (HS.out W2 hG);clear hG H HS;go_wp2_with fail;go_roundw
   case rel=>exact ⟨j+1,_,by show _≤_;omega,by go_num,rfl,by rw [HU.out],HF⟩
   case measure=>simp [intOf];omega
  ·obtain rfl:j=4:=by have:=hjn.out;omega
   rcases hF.out with ⟨rfl,h1,h2,rfl⟩|⟨a',e',h1,h2,h3⟩
   ·have HV:=Lib.hid (show dN B a 4= .ok (leN ((B.drop a).take 4),a+4)from if_pos h1);obtain ⟨A1,k,d0,d1,d2,l0,l1,l2,gle,gq,glt,ga⟩:=h2.1.cells;have H2:=Lib.hid h2;generalize leN ((B.drop a).take 4)=V at *;generalize jP 4=un at *;clear h2 gq hF;go_wp2_with fail;go_ret;rw [HV.out];exact ⟨rfl,H2.out⟩
   ·have he2:(e' !=0)=true:=by simp;exact h2
    obtain ⟨A1,k,d0,d1,d2,l0,l1,l2,gle,gq,glt,ga⟩:=h1.1.cells;have H1:=Lib.hid h1;have H3:=Lib.hid h3;have HE:=Lib.hid h2;generalize jP 4=un at *;clear h1 h3 h2 gq hF;go_wp2_with fail;refine (dV _ _ _ _ _ a _ H1.out.1 ha).mono ?_;rintro E W3 ⟨rfl,hG3⟩;rw [if_neg HE.out]at hG3;have HG3:=Lib.hid hG3;clear hG3;go_wp2_with fail;go_ret;rw [H3.out];exact ⟨rfl,H1.out.trans HG3.out⟩
theorem Cm (W:World) (p q:Nat) (B:List Int) (a:Nat) (e:Int) (hC:Rdr W p q B a e) (hB:aK B):
  Calls Tryz.prog 130 #[.pointer (some ⟨p,0,none⟩), .int .i64 8] W fun E w' =>E= .returned (.int .u64 (az (dN B a 8) a e).1)∧aF W w' p q B (az (dN B a 8) a e).2.1 (az (dN B a 8) a e).2.2:=by
 obtain ⟨A,c,c0,c1,c2,f0,f1,f2,hle,hq,hlt,ha⟩:=hC.cells;have hl:=hB.1;have HB:=Lib.hid hB
 have H0:=Lib.hid (show ug W W p q B a 8 e 0 0 from by
  by_cases he:e=0
  ·subst he;exact .inl ⟨rfl,by omega,aF.same hC,by simp [leN]⟩
  ·exact .inr ⟨a,e,aF.same hC,he,by simp [az,he]⟩)
 clear hC hB hq;go_enter Tryz.func130,Tryz.ntmps130;go_wp2_with fail;clear c0 c1 c2 f0 f1 f2;go_loopw [6,7,8] (fun x u k wr=>∃(j:Nat) (v:Int),Hid (j≤8)∧k= .int .i64 j∧x= .int .u64 v∧u= .int .u64 (jP j)∧Hid (ug W wr p q B a 8 e j v)) (fun _ _ k _=>8 - (intOf k).toNat)
 case atStart=>exact ⟨0,0,by simp [Hid],rfl,rfl,rfl,H0⟩
 case round=>
  obtain ⟨j,v,hjn,rfl,rfl,rfl,hF⟩:=hrel;have hj8:(j:Int)≤8:=by have:=hjn.out;omega
  by_cases hlt:j< 8
  ·have hlt2:(j:Int)< 8:=by omega
   obtain ⟨a',e',hR,hb0,hb1,hst⟩:=ug.step HB.out hlt (by omega) hF.out;have H:=Lib.hid (fK wr p q B a' e' hR HB.out);have HS:=Lib.hid hst;have HU:=Lib.hid (qR j);generalize aQ B a' e' =t at *;obtain ⟨b,a2,e2⟩:=t;generalize hun:jP j=un at *;simp only at hb0 hb1 H;clear hR hst hun;go_wp2_with fail;refine H.out.mono ?_;rintro E W2 ⟨rfl,hG⟩;have HF:=Lib.hid (HS.out W2 hG);clear hG H HS;go_wp2_with fail;go_roundw
   case rel=>exact ⟨j+1,_,by show _≤_;omega,by go_num,rfl,by rw [HU.out],HF⟩
   case measure=>simp [intOf];omega
  ·obtain rfl:j=8:=by have:=hjn.out;omega
   rcases hF.out with ⟨rfl,h1,h2,rfl⟩|⟨a',e',h1,h2,h3⟩
   ·have HV:=Lib.hid (show dN B a 8= .ok (leN ((B.drop a).take 8),a+8)from if_pos h1);obtain ⟨A1,k,d0,d1,d2,l0,l1,l2,gle,gq,glt,ga⟩:=h2.1.cells;have H2:=Lib.hid h2;generalize leN ((B.drop a).take 8)=V at *;generalize jP 8=un at *;clear h2 gq hF;go_wp2_with fail;go_ret;rw [HV.out];exact ⟨rfl,H2.out⟩
   ·have he2:(e' !=0)=true:=by simp;exact h2
    obtain ⟨A1,k,d0,d1,d2,l0,l1,l2,gle,gq,glt,ga⟩:=h1.1.cells;have H1:=Lib.hid h1;have H3:=Lib.hid h3;have HE:=Lib.hid h2;generalize jP 8=un at *;clear h1 h3 h2 gq hF;go_wp2_with fail;refine (dV _ _ _ _ _ a _ H1.out.1 ha).mono ?_;rintro E W3 ⟨rfl,hG3⟩;rw [if_neg HE.out]at hG3;have HG3:=Lib.hid hG3;clear hG3;go_wp2_with fail;go_ret;rw [H3.out];exact ⟨rfl,H1.out.trans HG3.out⟩
end Go.Proofs.YtofaiocffifhfaaGreat
section
namespace Go.Proofs.YtofaiocffifhfaaGreatB
open Go.RowKit
def CK:Value→Bool| .string s=> !s.toList.isEmpty && decide (s.size≤100)|_=>false
def iU (W:World) (A:Option Addr) (n:Nat) (t:TypeId):Prop:=∃g cs,A=some ⟨g,0,none⟩∧Blk W g cs t∧cs.size=n∧cs.all CK=true
theorem iU.at_ {W:World} {A:Option Addr} {n:Nat} {t:TypeId} (h:iU W A n t) (i:Nat) (hi:i< n):∃g s,A=some ⟨g,0,none⟩∧W.cell? ⟨g,i,none⟩=some (.string s)∧s.toList.isEmpty=false∧s.size≤100:=by
 obtain ⟨g,cs,rfl,hb,hs,ha⟩:=h;have hx:cs[i]? =some cs[i]:=Array.getElem?_eq_getElem (by omega)
 have hk:CK cs[i]=true:=by
  rw [Array.all_eq_true]at ha;exact ha i (by omega)
 generalize cs[i]=v at *;cases v<;>simp [CK]at hk
 exact ⟨g,_,rfl,by rw [hb.cell];exact hx,by simpa using hk.1,hk.2⟩
theorem iU.below {W W' :World} {A:Option Addr} {n:Nat} {t:TypeId} (h:iU W A n t) (hb:Below W.heap.size W W'):iU W' A n t:=by
 obtain ⟨g,cs,e,h1,h2,h3⟩:=h;exact ⟨g,cs,e,h1.below hb h1.lt,h2,h3⟩
end Go.Proofs.YtofaiocffifhfaaGreatB
namespace Go.Proofs.YtofaiocffifhfaaGreat
open Go.RowKit Go.Shelf YtofaiocffifhfaaGreatB Go.Proofs.YtofaiocffifhfaaGreatW.PrintWords
theorem mU (W:World):Calls Tryz.prog 152 #[] W fun E w' =>(∃A,E= .returned (.slice A 11 11)∧iU w' A 11 9)∧Below W.heap.size W w' :=by
 go_enter Tryz.func152,Tryz.ntmps152;go_wp2_with fail;go_ret;exact ⟨⟨_,rfl,_,_,rfl,Blk.new _ _ _,rfl,by decide+kernel⟩,(Below.refl _ _).alloc (Nat.le_refl _) _⟩
theorem qK (W:World):Calls Tryz.prog 153 #[] W fun E w' =>(∃A,E= .returned (.slice A 6 6)∧iU w' A 6 9)∧Below W.heap.size W w' :=by
 go_enter Tryz.func153,Tryz.ntmps153;go_wp2_with fail;go_ret;exact ⟨⟨_,rfl,_,_,rfl,Blk.new _ _ _,rfl,by decide+kernel⟩,(Below.refl _ _).alloc (Nat.le_refl _) _⟩
theorem qE (W:World):Calls Tryz.prog 154 #[] W fun E w' =>(∃A,E= .returned (.slice A 18 18)∧iU w' A 18 9)∧Below W.heap.size W w' :=by
 go_enter Tryz.func154,Tryz.ntmps154;go_wp2_with fail;go_ret;exact ⟨⟨_,rfl,_,_,rfl,Blk.new _ _ _,rfl,by decide+kernel⟩,(Below.refl _ _).alloc (Nat.le_refl _) _⟩
theorem oV (W:World):Calls Tryz.prog 155 #[] W fun E w' =>(∃A,E= .returned (.slice A 14 14)∧iU w' A 14 9)∧Below W.heap.size W w' :=by
 go_enter Tryz.func155,Tryz.ntmps155;go_wp2_with fail;go_ret;exact ⟨⟨_,rfl,_,_,rfl,Blk.new _ _ _,rfl,by decide+kernel⟩,(Below.refl _ _).alloc (Nat.le_refl _) _⟩
theorem AU (W:World):Calls Tryz.prog 156 #[] W fun E w' =>(∃A,E= .returned (.slice A 25 25)∧iU w' A 25 9)∧Below W.heap.size W w' :=by
 go_enter Tryz.func156,Tryz.ntmps156;go_wp2_with fail;go_ret;exact ⟨⟨_,rfl,_,_,rfl,Blk.new _ _ _,rfl,by decide+kernel⟩,(Below.refl _ _).alloc (Nat.le_refl _) _⟩
theorem Ej (W:World):Calls Tryz.prog 142 #[] W fun E w' =>(∃A,E= .returned (.slice A 8 8)∧iU w' A 8 9)∧Below W.heap.size W w' :=by
 go_enter Tryz.func142,Tryz.ntmps142;go_wp2_with fail;go_ret;exact ⟨⟨_,rfl,_,_,rfl,Blk.new _ _ _,rfl,by decide+kernel⟩,(Below.refl _ _).alloc (Nat.le_refl _) _⟩
def aZ:Array Value:=#[.string ⟨#[105,51,50,46]⟩, .string ⟨#[105,54,52,46]⟩, .string ⟨#[102,51,50,46]⟩, .string ⟨#[102,54,52,46]⟩, .string ⟨#[105,51,50,46]⟩, .string ⟨#[105,54,52,46]⟩, .string ⟨#[102,51,50,46]⟩, .string ⟨#[102,54,52,46]⟩, .string ⟨#[]⟩]
def fI (W:World) (n:Nat) (E:Ending) (w' :World):Prop:=(∃f A,E= .returned (.tuple #[.string f, .slice A n n])∧f.size≤100∧iU w' A n 9)∧Below W.heap.size W w'
theorem Fj (W:World):Calls Tryz.prog 143 #[.int .i64 0] W (fI W 11):=by
 go_enter Tryz.func143,Tryz.ntmps143;go_wp2_with fail;have hsz:=World.size_alloc W (.cells aZ 9);have hB0:=(Below.refl W.heap.size W).alloc (Nat.le_refl _) (.cells aZ 9);have c0:(W.alloc (.cells aZ 9)).cell? ⟨W.heap.size,0,none⟩=aZ[0]? :=by rw [(Blk.new W aZ 9).cell]
 obtain ⟨f,hf,hfs⟩:∃f,aZ[0]? =some (.string f)∧f.size≤100:=⟨_,rfl,by decide⟩;rw [hf]at c0;change Code.wp _ _ _ _ (W.alloc (.cells aZ 9));generalize W.alloc (.cells aZ 9)=W0 at *;have hB0' :=Lib.hid hB0;have hz:=Lib.hid hsz;clear hf hB0 hsz
 go_region_held3 (fun w' =>w'.cell? ⟨W.heap.size,0,none⟩=some (.string f)∧Below W0.heap.size W0 w')
  (first|exact ⟨c0,(Below.refl _ _).drew⟩|exact ⟨aB (w:=W0.drew) hB3 c0,((Below.refl _ _).drew).trans hB3⟩)
  (first|(go_at_call 152;refine (mU _).mono ?_;rintro E w3 ⟨⟨A,rfl,hS3⟩,hB3⟩))
 all_goals
  rename_i hS;obtain ⟨d0,hB4⟩:=hS;have HS3:=Lib.hid hS3;have HB:=Lib.hid (hB0'.out.trans (hB4.mono (by have:=hz.out;omega)));clear hS3 hB3 hB4;go_wp2_with fail;go_ret2;exact ⟨⟨f,A,rfl,hfs,HS3.out⟩,HB.out⟩
theorem FE (W:World):Calls Tryz.prog 143 #[.int .i64 1] W (fI W 11):=by
 go_enter Tryz.func143,Tryz.ntmps143;go_wp2_with fail;have hsz:=World.size_alloc W (.cells aZ 9);have hB0:=(Below.refl W.heap.size W).alloc (Nat.le_refl _) (.cells aZ 9);have c0:(W.alloc (.cells aZ 9)).cell? ⟨W.heap.size,1,none⟩=aZ[1]? :=by rw [(Blk.new W aZ 9).cell]
 obtain ⟨f,hf,hfs⟩:∃f,aZ[1]? =some (.string f)∧f.size≤100:=⟨_,rfl,by decide⟩;rw [hf]at c0;change Code.wp _ _ _ _ (W.alloc (.cells aZ 9));generalize W.alloc (.cells aZ 9)=W0 at *;have hB0' :=Lib.hid hB0;have hz:=Lib.hid hsz;clear hf hB0 hsz
 go_region_held3 (fun w' =>w'.cell? ⟨W.heap.size,1,none⟩=some (.string f)∧Below W0.heap.size W0 w')
  (first|exact ⟨c0,(Below.refl _ _).drew⟩|exact ⟨aB (w:=W0.drew) hB3 c0,((Below.refl _ _).drew).trans hB3⟩)
  (first|(go_at_call 152;refine (mU _).mono ?_;rintro E w3 ⟨⟨A,rfl,hS3⟩,hB3⟩))
 all_goals
  rename_i hS;obtain ⟨d0,hB4⟩:=hS;have HS3:=Lib.hid hS3;have HB:=Lib.hid (hB0'.out.trans (hB4.mono (by have:=hz.out;omega)));clear hS3 hB3 hB4;go_wp2_with fail;go_ret2;exact ⟨⟨f,A,rfl,hfs,HS3.out⟩,HB.out⟩
theorem GN (W:World):Calls Tryz.prog 143 #[.int .i64 2] W (fI W 6):=by
 go_enter Tryz.func143,Tryz.ntmps143;go_wp2_with fail;have hsz:=World.size_alloc W (.cells aZ 9);have hB0:=(Below.refl W.heap.size W).alloc (Nat.le_refl _) (.cells aZ 9);have c0:(W.alloc (.cells aZ 9)).cell? ⟨W.heap.size,2,none⟩=aZ[2]? :=by rw [(Blk.new W aZ 9).cell]
 obtain ⟨f,hf,hfs⟩:∃f,aZ[2]? =some (.string f)∧f.size≤100:=⟨_,rfl,by decide⟩;rw [hf]at c0;change Code.wp _ _ _ _ (W.alloc (.cells aZ 9));generalize W.alloc (.cells aZ 9)=W0 at *;have hB0' :=Lib.hid hB0;have hz:=Lib.hid hsz;clear hf hB0 hsz
 go_region_held3 (fun w' =>w'.cell? ⟨W.heap.size,2,none⟩=some (.string f)∧Below W0.heap.size W0 w')
  (first|exact ⟨c0,(Below.refl _ _).drew⟩|exact ⟨aB (w:=W0.drew) hB3 c0,((Below.refl _ _).drew).trans hB3⟩)
  (first|(go_at_call 153;refine (qK _).mono ?_;rintro E w3 ⟨⟨A,rfl,hS3⟩,hB3⟩))
 all_goals
  rename_i hS;obtain ⟨d0,hB4⟩:=hS;have HS3:=Lib.hid hS3;have HB:=Lib.hid (hB0'.out.trans (hB4.mono (by have:=hz.out;omega)));clear hS3 hB3 hB4;go_wp2_with fail;go_ret2;exact ⟨⟨f,A,rfl,hfs,HS3.out⟩,HB.out⟩
theorem EU (W:World):Calls Tryz.prog 143 #[.int .i64 3] W (fI W 6):=by
 go_enter Tryz.func143,Tryz.ntmps143;go_wp2_with fail;have hsz:=World.size_alloc W (.cells aZ 9);have hB0:=(Below.refl W.heap.size W).alloc (Nat.le_refl _) (.cells aZ 9);have c0:(W.alloc (.cells aZ 9)).cell? ⟨W.heap.size,3,none⟩=aZ[3]? :=by rw [(Blk.new W aZ 9).cell]
 obtain ⟨f,hf,hfs⟩:∃f,aZ[3]? =some (.string f)∧f.size≤100:=⟨_,rfl,by decide⟩;rw [hf]at c0;change Code.wp _ _ _ _ (W.alloc (.cells aZ 9));generalize W.alloc (.cells aZ 9)=W0 at *;have hB0' :=Lib.hid hB0;have hz:=Lib.hid hsz;clear hf hB0 hsz
 go_region_held3 (fun w' =>w'.cell? ⟨W.heap.size,3,none⟩=some (.string f)∧Below W0.heap.size W0 w')
  (first|exact ⟨c0,(Below.refl _ _).drew⟩|exact ⟨aB (w:=W0.drew) hB3 c0,((Below.refl _ _).drew).trans hB3⟩)
  (first|(go_at_call 153;refine (qK _).mono ?_;rintro E w3 ⟨⟨A,rfl,hS3⟩,hB3⟩))
 all_goals
  rename_i hS;obtain ⟨d0,hB4⟩:=hS;have HS3:=Lib.hid hS3;have HB:=Lib.hid (hB0'.out.trans (hB4.mono (by have:=hz.out;omega)));clear hS3 hB3 hB4;go_wp2_with fail;go_ret2;exact ⟨⟨f,A,rfl,hfs,HS3.out⟩,HB.out⟩
theorem Fq (W:World):Calls Tryz.prog 143 #[.int .i64 4] W (fI W 18):=by
 go_enter Tryz.func143,Tryz.ntmps143;go_wp2_with fail;have hsz:=World.size_alloc W (.cells aZ 9);have hB0:=(Below.refl W.heap.size W).alloc (Nat.le_refl _) (.cells aZ 9);have c0:(W.alloc (.cells aZ 9)).cell? ⟨W.heap.size,4,none⟩=aZ[4]? :=by rw [(Blk.new W aZ 9).cell]
 obtain ⟨f,hf,hfs⟩:∃f,aZ[4]? =some (.string f)∧f.size≤100:=⟨_,rfl,by decide⟩;rw [hf]at c0;change Code.wp _ _ _ _ (W.alloc (.cells aZ 9));generalize W.alloc (.cells aZ 9)=W0 at *;have hB0' :=Lib.hid hB0;have hz:=Lib.hid hsz;clear hf hB0 hsz
 go_region_held3 (fun w' =>w'.cell? ⟨W.heap.size,4,none⟩=some (.string f)∧Below W0.heap.size W0 w')
  (first|exact ⟨c0,(Below.refl _ _).drew⟩|exact ⟨aB (w:=W0.drew) hB3 c0,((Below.refl _ _).drew).trans hB3⟩)
  (first|(go_at_call 154;refine (qE _).mono ?_;rintro E w3 ⟨⟨A,rfl,hS3⟩,hB3⟩))
 all_goals
  rename_i hS;obtain ⟨d0,hB4⟩:=hS;have HS3:=Lib.hid hS3;have HB:=Lib.hid (hB0'.out.trans (hB4.mono (by have:=hz.out;omega)));clear hS3 hB3 hB4;go_wp2_with fail;go_ret2;exact ⟨⟨f,A,rfl,hfs,HS3.out⟩,HB.out⟩
theorem GJ (W:World):Calls Tryz.prog 143 #[.int .i64 5] W (fI W 18):=by
 go_enter Tryz.func143,Tryz.ntmps143;go_wp2_with fail;have hsz:=World.size_alloc W (.cells aZ 9);have hB0:=(Below.refl W.heap.size W).alloc (Nat.le_refl _) (.cells aZ 9);have c0:(W.alloc (.cells aZ 9)).cell? ⟨W.heap.size,5,none⟩=aZ[5]? :=by rw [(Blk.new W aZ 9).cell]
 obtain ⟨f,hf,hfs⟩:∃f,aZ[5]? =some (.string f)∧f.size≤100:=⟨_,rfl,by decide⟩;rw [hf]at c0;change Code.wp _ _ _ _ (W.alloc (.cells aZ 9));generalize W.alloc (.cells aZ 9)=W0 at *;have hB0' :=Lib.hid hB0;have hz:=Lib.hid hsz;clear hf hB0 hsz
 go_region_held3 (fun w' =>w'.cell? ⟨W.heap.size,5,none⟩=some (.string f)∧Below W0.heap.size W0 w')
  (first|exact ⟨c0,(Below.refl _ _).drew⟩|exact ⟨aB (w:=W0.drew) hB3 c0,((Below.refl _ _).drew).trans hB3⟩)
  (first|(go_at_call 154;refine (qE _).mono ?_;rintro E w3 ⟨⟨A,rfl,hS3⟩,hB3⟩))
 all_goals
  rename_i hS;obtain ⟨d0,hB4⟩:=hS;have HS3:=Lib.hid hS3;have HB:=Lib.hid (hB0'.out.trans (hB4.mono (by have:=hz.out;omega)));clear hS3 hB3 hB4;go_wp2_with fail;go_ret2;exact ⟨⟨f,A,rfl,hfs,HS3.out⟩,HB.out⟩
theorem Ff (W:World):Calls Tryz.prog 143 #[.int .i64 6] W (fI W 14):=by
 go_enter Tryz.func143,Tryz.ntmps143;go_wp2_with fail;have hsz:=World.size_alloc W (.cells aZ 9);have hB0:=(Below.refl W.heap.size W).alloc (Nat.le_refl _) (.cells aZ 9);have c0:(W.alloc (.cells aZ 9)).cell? ⟨W.heap.size,6,none⟩=aZ[6]? :=by rw [(Blk.new W aZ 9).cell]
 obtain ⟨f,hf,hfs⟩:∃f,aZ[6]? =some (.string f)∧f.size≤100:=⟨_,rfl,by decide⟩;rw [hf]at c0;change Code.wp _ _ _ _ (W.alloc (.cells aZ 9));generalize W.alloc (.cells aZ 9)=W0 at *;have hB0' :=Lib.hid hB0;have hz:=Lib.hid hsz;clear hf hB0 hsz
 go_region_held3 (fun w' =>w'.cell? ⟨W.heap.size,6,none⟩=some (.string f)∧Below W0.heap.size W0 w')
  (first|exact ⟨c0,(Below.refl _ _).drew⟩|exact ⟨aB (w:=W0.drew) hB3 c0,((Below.refl _ _).drew).trans hB3⟩)
  (first|(go_at_call 155;refine (oV _).mono ?_;rintro E w3 ⟨⟨A,rfl,hS3⟩,hB3⟩))
 all_goals
  rename_i hS;obtain ⟨d0,hB4⟩:=hS;have HS3:=Lib.hid hS3;have HB:=Lib.hid (hB0'.out.trans (hB4.mono (by have:=hz.out;omega)));clear hS3 hB3 hB4;go_wp2_with fail;go_ret2;exact ⟨⟨f,A,rfl,hfs,HS3.out⟩,HB.out⟩
theorem GH (W:World):Calls Tryz.prog 143 #[.int .i64 7] W (fI W 14):=by
 go_enter Tryz.func143,Tryz.ntmps143;go_wp2_with fail;have hsz:=World.size_alloc W (.cells aZ 9);have hB0:=(Below.refl W.heap.size W).alloc (Nat.le_refl _) (.cells aZ 9);have c0:(W.alloc (.cells aZ 9)).cell? ⟨W.heap.size,7,none⟩=aZ[7]? :=by rw [(Blk.new W aZ 9).cell]
 obtain ⟨f,hf,hfs⟩:∃f,aZ[7]? =some (.string f)∧f.size≤100:=⟨_,rfl,by decide⟩;rw [hf]at c0;change Code.wp _ _ _ _ (W.alloc (.cells aZ 9));generalize W.alloc (.cells aZ 9)=W0 at *;have hB0' :=Lib.hid hB0;have hz:=Lib.hid hsz;clear hf hB0 hsz
 go_region_held3 (fun w' =>w'.cell? ⟨W.heap.size,7,none⟩=some (.string f)∧Below W0.heap.size W0 w')
  (first|exact ⟨c0,(Below.refl _ _).drew⟩|exact ⟨aB (w:=W0.drew) hB3 c0,((Below.refl _ _).drew).trans hB3⟩)
  (first|(go_at_call 155;refine (oV _).mono ?_;rintro E w3 ⟨⟨A,rfl,hS3⟩,hB3⟩))
 all_goals
  rename_i hS;obtain ⟨d0,hB4⟩:=hS;have HS3:=Lib.hid hS3;have HB:=Lib.hid (hB0'.out.trans (hB4.mono (by have:=hz.out;omega)));clear hS3 hB3 hB4;go_wp2_with fail;go_ret2;exact ⟨⟨f,A,rfl,hfs,HS3.out⟩,HB.out⟩
theorem FT (W:World):Calls Tryz.prog 143 #[.int .i64 8] W (fI W 25):=by
 go_enter Tryz.func143,Tryz.ntmps143;go_wp2_with fail;have hsz:=World.size_alloc W (.cells aZ 9);have hB0:=(Below.refl W.heap.size W).alloc (Nat.le_refl _) (.cells aZ 9);have c0:(W.alloc (.cells aZ 9)).cell? ⟨W.heap.size,8,none⟩=aZ[8]? :=by rw [(Blk.new W aZ 9).cell]
 obtain ⟨f,hf,hfs⟩:∃f,aZ[8]? =some (.string f)∧f.size≤100:=⟨_,rfl,by decide⟩;rw [hf]at c0;change Code.wp _ _ _ _ (W.alloc (.cells aZ 9));generalize W.alloc (.cells aZ 9)=W0 at *;have hB0' :=Lib.hid hB0;have hz:=Lib.hid hsz;clear hf hB0 hsz
 go_region_held3 (fun w' =>w'.cell? ⟨W.heap.size,8,none⟩=some (.string f)∧Below W0.heap.size W0 w')
  (first|exact ⟨c0,(Below.refl _ _).drew⟩|exact ⟨aB (w:=W0.drew) hB3 c0,((Below.refl _ _).drew).trans hB3⟩)
  (first|(go_at_call 156;refine (AU _).mono ?_;rintro E w3 ⟨⟨A,rfl,hS3⟩,hB3⟩))
 all_goals
  rename_i hS;obtain ⟨d0,hB4⟩:=hS;have HS3:=Lib.hid hS3;have HB:=Lib.hid (hB0'.out.trans (hB4.mono (by have:=hz.out;omega)));clear hS3 hB3 hB4;go_wp2_with fail;go_ret2;exact ⟨⟨f,A,rfl,hfs,HS3.out⟩,HB.out⟩
end Go.Proofs.YtofaiocffifhfaaGreat
end
